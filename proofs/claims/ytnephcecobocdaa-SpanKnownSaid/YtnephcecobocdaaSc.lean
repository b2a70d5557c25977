/- SaP, SaQ, SaR, SaS, SaU, in one text. -/
import Derived.Test.YtnephcecobocdaaSb
import Derived.Test.YtnephcecobocdaaBa
section
/- Layer 4: the laws, run under the contracts. -/
namespace Go.Proofs.Ytnephcecobocdaa.SaP
open Go Go.Proofs Go.Proofs.Ytnephcecobocdaa.Xc Go.Proofs.Ytnephcecobocdaa.SaT Go.Proofs.Ytnephcecobocdaa.VZk
set_option maxRecDepth 100000
set_option linter.unusedVariables false
abbrev U2 (a b : Int) : Value := .agg #[.int .u64 a, .int .u64 b]
abbrev S2 (a b : Int) : Value := .agg #[.int .i64 a, .int .i64 b]
def nBit (v m : Int) (K : Value → Prop) : Prop := run Try.prog TKl EEk true 90 3 [U2 v m] K
theorem nBit_eq (v m : Int) (K : Value → Prop) : nBit v m K = (need (Go.Proofs.Ytnephcecobocdaa.SaT.djn (Go.bits .andNot .u64 v m) m) (nm (Go.Proofs.Ytnephcecobocdaa.SaT.ftH (Go.bits .andNot .u64 v m) m) fun r => nm (Go.Proofs.Ytnephcecobocdaa.SaT.ftL (Go.bits .andNot .u64 v m) m) fun r_1 => nm (Go.Proofs.Ytnephcecobocdaa.SaT.ftS (Go.bits .andNot .u64 v m) m) fun r_2 => need (Go.Proofs.Ytnephcecobocdaa.SaT.djn (Go.bits .andNot .u64 v m) m) (nm (Go.Proofs.Ytnephcecobocdaa.SaT.ftH (Go.bits .andNot .u64 v m) m) fun r_3 => nm (Go.Proofs.Ytnephcecobocdaa.SaT.ftL (Go.bits .andNot .u64 v m) m) fun r_4 => nm (Go.Proofs.Ytnephcecobocdaa.SaT.ftS (Go.bits .andNot .u64 v m) m) fun r_5 => ob ((fun x => Go.bits .andNot .u64 v m == Go.bits .andNot .u64 v m && x) (r == r_3)) ((fun x => Go.bits .andNot .u64 v m == Go.bits .andNot .u64 v m && x) (r == r_3)) (ob ((fun x => Go.bits .andNot .u64 v m == Go.bits .andNot .u64 v m && x) (r == r_3)) ((fun x => Go.bits .andNot .u64 v m == Go.bits .andNot .u64 v m && x) (r == r_3)) (ob ((fun x => Go.bits .andNot .u64 v m == Go.bits .andNot .u64 v m && x) (r == r_3)) ((fun x => Go.bits .andNot .u64 v m == Go.bits .andNot .u64 v m && x) (r == r_3)) (ob (!(fun x => Go.bits .andNot .u64 v m == Go.bits .andNot .u64 v m && x) (r == r_3)) true (nm (bif (fun x => Go.bits .andNot .u64 v m == Go.bits .andNot .u64 v m && x) (r == r_3) then (fun x => r_1 == r_4 && x) (r_2 == r_5) else false) fun r => ob r r (ob (!r) true (nm (bif r then true else false) fun r => K (.bool r)))))))))) := by kernel_rfl
def nTak (v m x : Int) (K : Value → Prop) : Prop := run Try.prog TKl EEk true 90 4 [U2 v m, .int .u64 x] K
theorem nTak_eq (v m x : Int) (K : Value → Prop) : nTak v m x K = (need (Go.Proofs.Ytnephcecobocdaa.SaT.djn (Go.bits .andNot .u64 v m) m) (nm (Go.Proofs.Ytnephcecobocdaa.SaT.ftH (Go.bits .andNot .u64 v m) m) fun r => nm (Go.Proofs.Ytnephcecobocdaa.SaT.ftL (Go.bits .andNot .u64 v m) m) fun r_1 => nm (Go.Proofs.Ytnephcecobocdaa.SaT.ftS (Go.bits .andNot .u64 v m) m) fun r_2 => ob true true (br (Go.bits .andNot .u64 (Go.bits .andNot .u64 v m) m != Go.bits .andNot .u64 v m) (K (.bool false)) (ob true true (br (Go.bits .andNot .u64 r m != Go.bits .andNot .u64 v m) (K (.bool false)) (ob true true (br (Go.bits .andNot .u64 (IntKind.wrap .u64 r_1) m != Go.bits .andNot .u64 v m) (K (.bool false)) (ob true true (br (Go.bits .andNot .u64 (IntKind.wrap .u64 r_2) m != Go.bits .andNot .u64 v m) (K (.bool false)) (nm (decide (Go.bits .andNot .u64 v m ≤ Go.bits .or .u64 (Go.bits .andNot .u64 v m) (Go.bits .and .u64 x m) ∧ Go.bits .or .u64 (Go.bits .andNot .u64 v m) (Go.bits .and .u64 x m) ≤ r)) fun r => ob r r (ob r r (nm (decide (r_1 ≤ IntKind.wrap .i64 (Go.bits .or .u64 (Go.bits .andNot .u64 v m) (Go.bits .and .u64 x m)) ∧ IntKind.wrap .i64 (Go.bits .or .u64 (Go.bits .andNot .u64 v m) (Go.bits .and .u64 x m)) ≤ r_2)) fun r_3 => ob r r (ob (!r) true (nm (bif r then r_3 else false) fun r => ob r r (ob (!r) true (nm (bif r then true else false) fun r => K (.bool r))))))))))))))))) := by kernel_rfl
def nSgs (p0 p1 q0 q1 n i k : Int) (K : Value → Prop) : Prop := run Try.prog TKl EEk true 90 5 [S2 p0 p1, S2 q0 q1, .int .i64 n, .int .u64 i, .int .u64 k] K
theorem nSgs_eq (p0 p1 q0 q1 n i k : Int) (K : Value → Prop) : nSgs p0 p1 q0 q1 n i k K = (need ((Go.Proofs.Ytnephcecobocdaa.VZcf.i6 p0 ∧ Go.Proofs.Ytnephcecobocdaa.VZcf.i6 p1) ∧ Go.Proofs.Ytnephcecobocdaa.VZcf.i6 q0 ∧ Go.Proofs.Ytnephcecobocdaa.VZcf.i6 q1) (nm (min p0 p1) fun r => nm (max p0 p1) fun r_1 => nm (min q0 q1) fun r_2 => nm (max q0 q1) fun r_3 => im (Go.Proofs.Ytnephcecobocdaa.VZdj.LI r r_1 ∧ Go.Proofs.Ytnephcecobocdaa.VZdj.LI r_2 r_3) (need (Go.Proofs.Ytnephcecobocdaa.VZdj.LI r r_1 ∧ Go.Proofs.Ytnephcecobocdaa.VZu.u6 i) (al fun x => im (Go.Proofs.Ytnephcecobocdaa.VZu.u6 x ∧ Go.Proofs.Ytnephcecobocdaa.SaM.inU r r_1 (IntKind.wrap .i64 x)) (need (Go.Proofs.Ytnephcecobocdaa.VZdj.LI r_2 r_3 ∧ Go.Proofs.Ytnephcecobocdaa.VZu.u6 k) (al fun x_1 => im (Go.Proofs.Ytnephcecobocdaa.VZu.u6 x_1 ∧ Go.Proofs.Ytnephcecobocdaa.SaM.inU r_2 r_3 (IntKind.wrap .i64 x_1)) (nm (decide (r ≤ IntKind.wrap .i64 x ∧ IntKind.wrap .i64 x ≤ r_1)) fun r_4 => ob r_4 r_4 (ob r_4 r_4 (need (Go.Proofs.Ytnephcecobocdaa.VZdj.LI r r_1 ∧ Go.Proofs.Ytnephcecobocdaa.VZdj.LI r_2 r_3) (nm (Go.Proofs.Ytnephcecobocdaa.VZdb.saL r r_1 r_2 r_3) fun r_5 => nm (Go.Proofs.Ytnephcecobocdaa.VZdb.saH r r_1 r_2 r_3) fun r_6 => im (Go.Proofs.Ytnephcecobocdaa.VZdj.LI r_5 r_6) (ob r_4 r_4 (ob r_4 r_4 (ob r_4 r_4 (ob r_4 r_4 (nm (decide (r_5 ≤ IntKind.wrap .i64 (IntKind.wrap .u64 (x + x_1)) ∧ IntKind.wrap .i64 (IntKind.wrap .u64 (x + x_1)) ≤ r_6)) fun r_7 => ob r_4 r_4 (ob (!r_4) true (nm (bif r_4 then r_7 else false) fun r_8 => ob r_8 r_8 (ob r_8 r_8 (need (Go.Proofs.Ytnephcecobocdaa.VZdj.LI r r_1 ∧ Go.Proofs.Ytnephcecobocdaa.VZdj.LI r_2 r_3) (nm (Go.Proofs.Ytnephcecobocdaa.VZdb.ssL r r_1 r_2 r_3) fun r_9 => nm (Go.Proofs.Ytnephcecobocdaa.VZdb.ssH r r_1 r_2 r_3) fun r_10 => im (Go.Proofs.Ytnephcecobocdaa.VZdj.LI r_9 r_10) (ob r_8 r_8 (ob r_8 r_8 (ob r_8 r_8 (ob r_8 r_8 (nm (decide (r_9 ≤ IntKind.wrap .i64 (IntKind.wrap .u64 (x - x_1)) ∧ IntKind.wrap .i64 (IntKind.wrap .u64 (x - x_1)) ≤ r_10)) fun r_11 => ob r_8 r_8 (ob (!r_8) true (nm (bif r_8 then r_11 else false) fun r_12 => ob r_12 r_12 (ob r_12 r_12 (need (Go.Proofs.Ytnephcecobocdaa.VZdj.LI r r_1 ∧ Go.Proofs.Ytnephcecobocdaa.VZcf.i6 n) (nm (Go.Proofs.Ytnephcecobocdaa.VZdf.dn r n) fun r_13 => nm (Go.Proofs.Ytnephcecobocdaa.VZdf.dn r_1 n) fun r_14 => ob r_12 r_12 (ob r_12 r_12 (ob r_12 r_12 (ob r_12 r_12 (ob r_12 r_12 (ob r_12 (decide (0 ≤ IntKind.wrap .u64 (Go.bits .and .i64 n 63))) (ob r_12 r_12 (ob r_12 r_12 (ob r_12 r_12 (nm (decide (r_13 ≤ IntKind.wrap .i64 (IntKind.wrap .u64 (IntKind.wrap .i64 x / 2 ^ min (Int.toNat (IntKind.wrap .u64 (Go.bits .and .i64 n 63))) (IntKind.bits .i64))) ∧ IntKind.wrap .i64 (IntKind.wrap .u64 (IntKind.wrap .i64 x / 2 ^ min (Int.toNat (IntKind.wrap .u64 (Go.bits .and .i64 n 63))) (IntKind.bits .i64))) ≤ r_14)) fun r_15 => ob r_12 r_12 (ob (!r_12) true (nm (bif r_12 then r_15 else false) fun r_16 => ob r_16 r_16 (need (Go.Proofs.Ytnephcecobocdaa.VZdj.LI r r_1) (nm (Go.Proofs.Ytnephcecobocdaa.SaT.tuL r r_1) fun r_17 => nm (Go.Proofs.Ytnephcecobocdaa.SaT.tuH r r_1) fun r => ob r_16 r_16 (ob r_16 r_16 (nm (decide (r_17 ≤ x ∧ x ≤ r)) fun r => ob r_16 r_16 (ob (!r_16) true (nm (bif r_16 then r else false) fun r => ob r r (ob (!r) true (nm (bif r then true else false) fun r => K (.bool r)))))))))))))))))))))))))))))))))))))))))))))))))) := by kernel_rfl
def nSig (p0 p1 q0 q1 n v : Int) (K : Value → Prop) : Prop := run Try.prog TKl EEk true 90 7 [S2 p0 p1, S2 q0 q1, .int .i64 n, .int .u64 v] K
theorem nSig_eq (p0 p1 q0 q1 n v : Int) (K : Value → Prop) : nSig p0 p1 q0 q1 n v K = (need ((Go.Proofs.Ytnephcecobocdaa.VZcf.i6 p0 ∧ Go.Proofs.Ytnephcecobocdaa.VZcf.i6 p1) ∧ Go.Proofs.Ytnephcecobocdaa.VZcf.i6 q0 ∧ Go.Proofs.Ytnephcecobocdaa.VZcf.i6 q1) (nm (min p0 p1) fun r => nm (max p0 p1) fun r_1 => nm (min q0 q1) fun r_2 => nm (max q0 q1) fun r_3 => im (Go.Proofs.Ytnephcecobocdaa.VZdj.LI r r_1 ∧ Go.Proofs.Ytnephcecobocdaa.VZdj.LI r_2 r_3) (nm (decide (max r r_2 ≤ min r_1 r_3)) fun r_4 => nm (bif r_4 then max r r_2 else 0) fun r_5 => nm (bif r_4 then min r_1 r_3 else 0) fun r_6 => nm (decide (max r r_2 ≤ min r_1 r_3)) fun r_7 => nm (bif r_7 then max r r_2 else 0) fun r_8 => nm (bif r_7 then min r_1 r_3 else 0) fun r_9 => ob (!!(fun x => r_5 == r_8 && x) (r_6 == r_9)) (!!(fun x => r_5 == r_8 && x) (r_6 == r_9)) (ob (!!(fun x => r_5 == r_8 && x) (r_6 == r_9)) (!!(fun x => r_5 == r_8 && x) (r_6 == r_9)) (ob (!!(fun x => r_5 == r_8 && x) (r_6 == r_9)) (!!(fun x => r_5 == r_8 && x) (r_6 == r_9)) (ob (!!(fun x => r_5 == r_8 && x) (r_6 == r_9)) (!!(fun x => r_5 == r_8 && x) (r_6 == r_9)) (ob (!(fun x => r_5 == r_8 && x) (r_6 == r_9)) true (ob (!!(fun x => r_5 == r_8 && x) (r_6 == r_9)) (!!(fun x => r_5 == r_8 && x) (r_6 == r_9)) (nm (bif !(fun x => r_5 == r_8 && x) (r_6 == r_9) then true else !r_4 == r_7) fun r_10 => ob (!r_10) (!r_10) (ob (!r_10) (!r_10) (nm (decide (r ≤ IntKind.wrap .i64 v ∧ IntKind.wrap .i64 v ≤ r_1)) fun r_11 => ob (!r_10) (!r_10) (ob (!r_10) (!r_10) (nm (decide (r ≤ IntKind.wrap .i64 v ∧ IntKind.wrap .i64 v ≤ r_1)) fun r_12 => ob (!r_10) (!r_10) (ob (!r_10) (!r_10) (ob (!r_10) (!r_10) (ob (!r_10) (!r_10) (ob r_10 true (ob (!r_10) (!r_10) (nm (bif r_10 then true else !r_11 == r_12) fun r_13 => ob (!r_13) (!r_13) (ob (!r_13) (!r_13) (need (r ≤ r_1) (nm (decide (r_2 ≤ r ∧ r_1 ≤ r_3)) fun r_14 => ob (!r_13) (!r_13) (ob (!r_13) (!r_13) (need (r ≤ r_1) (nm (decide (r_2 ≤ r ∧ r_1 ≤ r_3)) fun r_15 => ob (!r_13) (!r_13) (ob (!r_13) (!r_13) (ob (!r_13) (!r_13) (ob (!r_13) (!r_13) (ob r_13 true (ob (!r_13) (!r_13) (nm (bif r_13 then true else !r_14 == r_15) fun r_16 => ob (!r_16) (!r_16) (ob (!r_16) (!r_16) (nm (min r r_2) fun r_17 => nm (max r_1 r_3) fun r_18 => ob (!r_16) (!r_16) (ob (!r_16) (!r_16) (nm (min r r_2) fun r_19 => nm (max r_1 r_3) fun r_20 => ob (!r_16) (!r_16) (ob (!r_16) (!r_16) (ob r_16 true (ob (!r_16) (!r_16) (nm (bif r_16 then true else !(fun x => r_17 == r_19 && x) (r_18 == r_20)) fun r_21 => br r_21 (K (.bool false)) (need (Go.Proofs.Ytnephcecobocdaa.VZdj.LI r r_1 ∧ Go.Proofs.Ytnephcecobocdaa.VZdj.LI r_2 r_3) (nm (Go.Proofs.Ytnephcecobocdaa.VZdb.saL r r_1 r_2 r_3) fun r_22 => nm (Go.Proofs.Ytnephcecobocdaa.VZdb.saH r r_1 r_2 r_3) fun r_23 => im (Go.Proofs.Ytnephcecobocdaa.VZdj.LI r_22 r_23) (need (Go.Proofs.Ytnephcecobocdaa.VZdj.LI r r_1 ∧ Go.Proofs.Ytnephcecobocdaa.VZdj.LI r_2 r_3) (nm (Go.Proofs.Ytnephcecobocdaa.VZdb.saL r r_1 r_2 r_3) fun r_24 => nm (Go.Proofs.Ytnephcecobocdaa.VZdb.saH r r_1 r_2 r_3) fun r_25 => im (Go.Proofs.Ytnephcecobocdaa.VZdj.LI r_24 r_25) (ob (!!(fun x => r_22 == r_24 && x) (r_23 == r_25)) (!!(fun x => r_22 == r_24 && x) (r_23 == r_25)) (ob (!!(fun x => r_22 == r_24 && x) (r_23 == r_25)) (!!(fun x => r_22 == r_24 && x) (r_23 == r_25)) (need (Go.Proofs.Ytnephcecobocdaa.VZdj.LI r r_1 ∧ Go.Proofs.Ytnephcecobocdaa.VZdj.LI r_2 r_3) (nm (Go.Proofs.Ytnephcecobocdaa.VZdb.ssL r r_1 r_2 r_3) fun r_26 => nm (Go.Proofs.Ytnephcecobocdaa.VZdb.ssH r r_1 r_2 r_3) fun r_27 => im (Go.Proofs.Ytnephcecobocdaa.VZdj.LI r_26 r_27) (ob (!!(fun x => r_22 == r_24 && x) (r_23 == r_25)) (!!(fun x => r_22 == r_24 && x) (r_23 == r_25)) (ob (!!(fun x => r_22 == r_24 && x) (r_23 == r_25)) (!!(fun x => r_22 == r_24 && x) (r_23 == r_25)) (need (Go.Proofs.Ytnephcecobocdaa.VZdj.LI r r_1 ∧ Go.Proofs.Ytnephcecobocdaa.VZdj.LI r_2 r_3) (nm (Go.Proofs.Ytnephcecobocdaa.VZdb.ssL r r_1 r_2 r_3) fun r_28 => nm (Go.Proofs.Ytnephcecobocdaa.VZdb.ssH r r_1 r_2 r_3) fun r_29 => im (Go.Proofs.Ytnephcecobocdaa.VZdj.LI r_28 r_29) (ob (!!(fun x => r_22 == r_24 && x) (r_23 == r_25)) (!!(fun x => r_22 == r_24 && x) (r_23 == r_25)) (ob (!!(fun x => r_22 == r_24 && x) (r_23 == r_25)) (!!(fun x => r_22 == r_24 && x) (r_23 == r_25)) (ob (!(fun x => r_22 == r_24 && x) (r_23 == r_25)) true (ob (!!(fun x => r_22 == r_24 && x) (r_23 == r_25)) (!!(fun x => r_22 == r_24 && x) (r_23 == r_25)) (nm (bif !(fun x => r_22 == r_24 && x) (r_23 == r_25) then true else !(fun x => r_26 == r_28 && x) (r_27 == r_29)) fun r_30 => ob (!r_30) (!r_30) (ob (!r_30) (!r_30) (need (Go.Proofs.Ytnephcecobocdaa.VZdj.LI r r_1 ∧ Go.Proofs.Ytnephcecobocdaa.VZcf.i6 n) (nm (Go.Proofs.Ytnephcecobocdaa.VZdf.dn r n) fun r_31 => nm (Go.Proofs.Ytnephcecobocdaa.VZdf.dn r_1 n) fun r_32 => ob (!r_30) (!r_30) (ob (!r_30) (!r_30) (need (Go.Proofs.Ytnephcecobocdaa.VZdj.LI r r_1 ∧ Go.Proofs.Ytnephcecobocdaa.VZcf.i6 n) (nm (Go.Proofs.Ytnephcecobocdaa.VZdf.dn r n) fun r_33 => nm (Go.Proofs.Ytnephcecobocdaa.VZdf.dn r_1 n) fun r_34 => ob (!r_30) (!r_30) (ob (!r_30) (!r_30) (ob r_30 true (ob (!r_30) (!r_30) (nm (bif r_30 then true else !(fun x => r_31 == r_33 && x) (r_32 == r_34)) fun r_35 => ob (!r_35) (!r_35) (need (Go.Proofs.Ytnephcecobocdaa.VZdj.LI r r_1) (nm (Go.Proofs.Ytnephcecobocdaa.SaT.tuL r r_1) fun r_36 => nm (Go.Proofs.Ytnephcecobocdaa.SaT.tuH r r_1) fun r_37 => ob (!r_35) (!r_35) (need (Go.Proofs.Ytnephcecobocdaa.VZdj.LI r r_1) (nm (Go.Proofs.Ytnephcecobocdaa.SaT.tuL r r_1) fun r_38 => nm (Go.Proofs.Ytnephcecobocdaa.SaT.tuH r r_1) fun r => ob (!r_35) (!r_35) (ob (!r_35) (!r_35) (ob r_35 true (ob (!r_35) (!r_35) (nm (bif r_35 then true else !(fun x => r_36 == r_38 && x) (r_37 == r)) fun r => br r (K (.bool false)) (ob true true (nm (IntKind.wrap .i64 v) fun r => ob true true (nm (IntKind.wrap .i64 v) fun r_39 => ob true true (ob true true (ob true true (ob false true (nm (bif (fun x => -9223372036854775808 == -9223372036854775808 && x) (9223372036854775807 == 9223372036854775807) then (fun x => r == r_39 && x) (r == r_39) else false) fun r => ob r r (ob (!r) true (nm (bif r then true else false) fun r => K (.bool r)))))))))))))))))))))))))))))))))))))))))))))))))))))))))))))))))))))))))))))))))))) := by kernel_rfl
def nExa (x y n : Int) (K : Value → Prop) : Prop := run Try.prog TKl EEk true 90 8 [.int .u64 x, .int .u64 y, .int .i64 n] K
theorem nExa_eq (x y n : Int) (K : Value → Prop) : nExa x y n K = (ob (!decide (IntKind.wrap .u64 (x + y) < x)) (!decide (IntKind.wrap .u64 (x + y) < x)) (ob (!decide (IntKind.wrap .u64 (x + y) < x)) (!decide (IntKind.wrap .u64 (x + y) < x)) (need (Go.Proofs.Ytnephcecobocdaa.VZdh.LH x x ∧ Go.Proofs.Ytnephcecobocdaa.VZdh.LH y y) (nm (Go.Proofs.Ytnephcecobocdaa.VZdb.uaL x x y y) fun r => nm (Go.Proofs.Ytnephcecobocdaa.VZdb.uaH x x y y) fun r_1 => im (Go.Proofs.Ytnephcecobocdaa.VZdh.LH r r_1) (ob (!decide (IntKind.wrap .u64 (x + y) < x)) (!decide (IntKind.wrap .u64 (x + y) < x)) (ob (!decide (IntKind.wrap .u64 (x + y) < x)) (!decide (IntKind.wrap .u64 (x + y) < x)) (ob (!decide (IntKind.wrap .u64 (x + y) < x)) (!decide (IntKind.wrap .u64 (x + y) < x)) (ob (!decide (IntKind.wrap .u64 (x + y) < x)) (!decide (IntKind.wrap .u64 (x + y) < x)) (ob (!decide (IntKind.wrap .u64 (x + y) < x)) (!decide (IntKind.wrap .u64 (x + y) < x)) (ob (!decide (IntKind.wrap .u64 (x + y) < x)) (!decide (IntKind.wrap .u64 (x + y) < x)) (ob (!!decide (IntKind.wrap .u64 (x + y) < x)) true (nm (bif !decide (IntKind.wrap .u64 (x + y) < x) then !(fun x_1 => r == IntKind.wrap .u64 (x + y) && x_1) (r_1 == IntKind.wrap .u64 (x + y)) else false) fun r => ob (!r) (!r) (ob (!r) (!r) (ob (!r) (!r) (ob (!r && decide (x ≥ y)) (!r && decide (x ≥ y)) (ob (!r && decide (x ≥ y)) (!r && decide (x ≥ y)) (need (Go.Proofs.Ytnephcecobocdaa.VZdh.LH x x ∧ Go.Proofs.Ytnephcecobocdaa.VZdh.LH y y) (nm (Go.Proofs.Ytnephcecobocdaa.VZdb.usL x x y y) fun r_2 => nm (Go.Proofs.Ytnephcecobocdaa.VZdb.usH x x y y) fun r_3 => im (Go.Proofs.Ytnephcecobocdaa.VZdh.LH r_2 r_3) (ob (!r && decide (x ≥ y)) (!r && decide (x ≥ y)) (ob (!r && decide (x ≥ y)) (!r && decide (x ≥ y)) (ob (!r && decide (x ≥ y)) (!r && decide (x ≥ y)) (ob (!r && decide (x ≥ y)) (!r && decide (x ≥ y)) (ob (!r && decide (x ≥ y)) (!r && decide (x ≥ y)) (ob (!r) (!r) (ob (!r && decide (x ≥ y)) (!r && decide (x ≥ y)) (ob (!r && !decide (x ≥ y)) true (nm (bif decide (x ≥ y) then !(fun x_1 => r_2 == IntKind.wrap .u64 (x - y) && x_1) (r_3 == IntKind.wrap .u64 (x - y)) else false) fun r_4 => ob r true (ob (!r) (!r) (nm (bif r then true else r_4) fun r => br r (K (.bool false)) (need (Go.Proofs.Ytnephcecobocdaa.VZdh.LH x x ∧ Go.Proofs.Ytnephcecobocdaa.VZdh.LH y y) (nm (Go.Proofs.Ytnephcecobocdaa.VZdb.unL x x y y) fun r => nm (Go.Proofs.Ytnephcecobocdaa.VZdb.unH x x y y) fun r_5 => im (Go.Proofs.Ytnephcecobocdaa.VZdh.LH r r_5) (ob (!!(fun x_1 => r == Go.bits .and .u64 x y && x_1) (r_5 == Go.bits .and .u64 x y)) (!!(fun x_1 => r == Go.bits .and .u64 x y && x_1) (r_5 == Go.bits .and .u64 x y)) (ob (!!(fun x_1 => r == Go.bits .and .u64 x y && x_1) (r_5 == Go.bits .and .u64 x y)) (!!(fun x_1 => r == Go.bits .and .u64 x y && x_1) (r_5 == Go.bits .and .u64 x y)) (need (Go.Proofs.Ytnephcecobocdaa.VZdh.LH x x ∧ Go.Proofs.Ytnephcecobocdaa.VZdh.LH y y) (nm (Go.Proofs.Ytnephcecobocdaa.VZdg.uoL' x x y y) fun r_6 => nm (Go.Proofs.Ytnephcecobocdaa.VZdg.uoH' x x y y) fun r_7 => im (Go.Proofs.Ytnephcecobocdaa.VZdh.LH r_6 r_7) (ob (!!(fun x_1 => r == Go.bits .and .u64 x y && x_1) (r_5 == Go.bits .and .u64 x y)) (!!(fun x_1 => r == Go.bits .and .u64 x y && x_1) (r_5 == Go.bits .and .u64 x y)) (ob (!!(fun x_1 => r == Go.bits .and .u64 x y && x_1) (r_5 == Go.bits .and .u64 x y)) (!!(fun x_1 => r == Go.bits .and .u64 x y && x_1) (r_5 == Go.bits .and .u64 x y)) (ob (!!(fun x_1 => r == Go.bits .and .u64 x y && x_1) (r_5 == Go.bits .and .u64 x y)) (!!(fun x_1 => r == Go.bits .and .u64 x y && x_1) (r_5 == Go.bits .and .u64 x y)) (ob (!!(fun x_1 => r == Go.bits .and .u64 x y && x_1) (r_5 == Go.bits .and .u64 x y)) (!!(fun x_1 => r == Go.bits .and .u64 x y && x_1) (r_5 == Go.bits .and .u64 x y)) (ob (!!(fun x_1 => r == Go.bits .and .u64 x y && x_1) (r_5 == Go.bits .and .u64 x y)) (!!(fun x_1 => r == Go.bits .and .u64 x y && x_1) (r_5 == Go.bits .and .u64 x y)) (ob (!(fun x_1 => r == Go.bits .and .u64 x y && x_1) (r_5 == Go.bits .and .u64 x y)) true (ob (!!(fun x_1 => r == Go.bits .and .u64 x y && x_1) (r_5 == Go.bits .and .u64 x y)) (!!(fun x_1 => r == Go.bits .and .u64 x y && x_1) (r_5 == Go.bits .and .u64 x y)) (nm (bif !(fun x_1 => r == Go.bits .and .u64 x y && x_1) (r_5 == Go.bits .and .u64 x y) then true else !(fun x_1 => r_6 == Go.bits .or .u64 x y && x_1) (r_7 == Go.bits .or .u64 x y)) fun r => ob (!r) (!r) (ob (!r) (!r) (need (Go.Proofs.Ytnephcecobocdaa.VZdh.LH x x ∧ Go.Proofs.Ytnephcecobocdaa.VZcf.i6 n) (nm (Go.Proofs.Ytnephcecobocdaa.SaT.dL x x n) fun r_8 => nm (Go.Proofs.Ytnephcecobocdaa.SaT.dH x x n) fun r_9 => ob (!r) (!r) (ob (!r) (!r) (ob (!r) (!r) (ob (!r) (!r) (ob (!r) (decide (0 ≤ IntKind.wrap .u64 (Go.bits .and .i64 n 63))) (ob (!r) (!r) (ob (!r) (!r) (ob (!r) (!r) (ob r true (ob (!r) (!r) (nm (bif r then true else !(fun x_1 => r_8 == x / 2 ^ min (Int.toNat (IntKind.wrap .u64 (Go.bits .and .i64 n 63))) (IntKind.bits .u64) && x_1) (r_9 == x / 2 ^ min (Int.toNat (IntKind.wrap .u64 (Go.bits .and .i64 n 63))) (IntKind.bits .u64))) fun r => ob (!r) (!r) (need (Go.Proofs.Ytnephcecobocdaa.VZdh.LH x x) (nm (Go.Proofs.Ytnephcecobocdaa.VZdb.ucL x x) fun r_10 => nm (Go.Proofs.Ytnephcecobocdaa.VZdb.ucH x x) fun r_11 => im (Go.Proofs.Ytnephcecobocdaa.VZdh.LH r_10 r_11) (ob (!r) (!r) (ob (!r) true (ob (!r) (!r) (ob (!r) (!r) (ob (!r) (!r) (ob r true (ob (!r) (!r) (nm (bif r then true else !(fun x_1 => r_10 == Int.tmod x 4294967296 && x_1) (r_11 == Int.tmod x 4294967296)) fun r => ob (!r) (!r) (need (Go.Proofs.Ytnephcecobocdaa.VZdh.LH x x) (nm (Go.Proofs.Ytnephcecobocdaa.SaT.tsL x x) fun r_12 => nm (Go.Proofs.Ytnephcecobocdaa.SaT.tsH x x) fun r_13 => ob (!r) (!r) (nm (IntKind.wrap .i64 x) fun r_14 => ob (!r) (!r) (ob (!r) (!r) (ob r true (ob (!r) (!r) (nm (bif r then true else !(fun x => r_12 == r_14 && x) (r_13 == r_14)) fun r => ob (!r) (!r) (nm (IntKind.wrap .i64 x) fun r_15 => ob (!r) (!r) (need (Go.Proofs.Ytnephcecobocdaa.VZdj.LI r_15 r_15) (nm (Go.Proofs.Ytnephcecobocdaa.SaT.tuL r_15 r_15) fun r_16 => nm (Go.Proofs.Ytnephcecobocdaa.SaT.tuH r_15 r_15) fun r_17 => ob (!r) (!r) (ob (!r) (!r) (ob r true (ob (!r) (!r) (nm (bif r then true else !(fun x_1 => r_16 == x && x_1) (r_17 == x)) fun r => ob (!r) (!r) (need (Go.Proofs.Ytnephcecobocdaa.VZdh.LH x x) (nm (Go.Proofs.Ytnephcecobocdaa.VZbc.ttV x x) fun r_18 => nm (Go.Proofs.Ytnephcecobocdaa.VZbc.ttM x x) fun r_19 => ob (!r) (!r) (ob (!r) (!r) (ob (!r) (!r) (ob r true (ob (!r) (!r) (nm (bif r then true else !(fun x_1 => r_18 == x && x_1) (r_19 == 0)) fun r => br r (K (.bool false)) (ob (y != 0) (y != 0) (ob (y != 0) (y != 0) (need (Go.Proofs.Ytnephcecobocdaa.VZdh.LH x x ∧ Go.Proofs.Ytnephcecobocdaa.VZdh.LH y y) (nm (Go.Proofs.Ytnephcecobocdaa.VZdb.udL x x y y) fun r => nm (Go.Proofs.Ytnephcecobocdaa.VZdb.udH x x y y) fun r_20 => im (Go.Proofs.Ytnephcecobocdaa.VZdh.LH r r_20) (ob (y != 0) (y != 0) (ob (y != 0) (y != 0) (ob (y != 0) (y != 0) (ob (y != 0) (y != 0) (ob (y != 0) (y != 0) (ob (y != 0) (y != 0) (ob (y != 0) (y != 0) (ob (y != 0 && !!(fun x_1 => r == IntKind.wrap .u64 (Int.tdiv x y) && x_1) (r_20 == IntKind.wrap .u64 (Int.tdiv x y))) (y != 0 && !!(fun x_1 => r == IntKind.wrap .u64 (Int.tdiv x y) && x_1) (r_20 == IntKind.wrap .u64 (Int.tdiv x y))) (ob (y != 0 && !!(fun x_1 => r == IntKind.wrap .u64 (Int.tdiv x y) && x_1) (r_20 == IntKind.wrap .u64 (Int.tdiv x y))) (y != 0 && !!(fun x_1 => r == IntKind.wrap .u64 (Int.tdiv x y) && x_1) (r_20 == IntKind.wrap .u64 (Int.tdiv x y))) (need (Go.Proofs.Ytnephcecobocdaa.VZdh.LH x x ∧ Go.Proofs.Ytnephcecobocdaa.VZdh.LH y y) (nm (Go.Proofs.Ytnephcecobocdaa.VZdb.uoL x x y y) fun r_21 => nm (Go.Proofs.Ytnephcecobocdaa.VZdb.uoH x x y y) fun r_22 => im (Go.Proofs.Ytnephcecobocdaa.VZdh.LH r_21 r_22) (ob (y != 0 && !!(fun x_1 => r == IntKind.wrap .u64 (Int.tdiv x y) && x_1) (r_20 == IntKind.wrap .u64 (Int.tdiv x y))) (y != 0 && !!(fun x_1 => r == IntKind.wrap .u64 (Int.tdiv x y) && x_1) (r_20 == IntKind.wrap .u64 (Int.tdiv x y))) (ob (y != 0 && !!(fun x_1 => r == IntKind.wrap .u64 (Int.tdiv x y) && x_1) (r_20 == IntKind.wrap .u64 (Int.tdiv x y))) (y != 0 && !!(fun x_1 => r == IntKind.wrap .u64 (Int.tdiv x y) && x_1) (r_20 == IntKind.wrap .u64 (Int.tdiv x y))) (ob (y != 0 && !!(fun x_1 => r == IntKind.wrap .u64 (Int.tdiv x y) && x_1) (r_20 == IntKind.wrap .u64 (Int.tdiv x y))) (y != 0) (ob (y != 0 && !!(fun x_1 => r == IntKind.wrap .u64 (Int.tdiv x y) && x_1) (r_20 == IntKind.wrap .u64 (Int.tdiv x y))) (y != 0 && !!(fun x_1 => r == IntKind.wrap .u64 (Int.tdiv x y) && x_1) (r_20 == IntKind.wrap .u64 (Int.tdiv x y))) (ob (y != 0 && !!(fun x_1 => r == IntKind.wrap .u64 (Int.tdiv x y) && x_1) (r_20 == IntKind.wrap .u64 (Int.tdiv x y))) (y != 0 && !!(fun x_1 => r == IntKind.wrap .u64 (Int.tdiv x y) && x_1) (r_20 == IntKind.wrap .u64 (Int.tdiv x y))) (ob (y != 0 && !!(fun x_1 => r == IntKind.wrap .u64 (Int.tdiv x y) && x_1) (r_20 == IntKind.wrap .u64 (Int.tdiv x y))) (y != 0 && !!(fun x_1 => r == IntKind.wrap .u64 (Int.tdiv x y) && x_1) (r_20 == IntKind.wrap .u64 (Int.tdiv x y))) (ob (y != 0) (y != 0) (ob (y != 0 && !(fun x_1 => r == IntKind.wrap .u64 (Int.tdiv x y) && x_1) (r_20 == IntKind.wrap .u64 (Int.tdiv x y))) true (ob (y != 0 && !!(fun x_1 => r == IntKind.wrap .u64 (Int.tdiv x y) && x_1) (r_20 == IntKind.wrap .u64 (Int.tdiv x y))) (y != 0 && !!(fun x_1 => r == IntKind.wrap .u64 (Int.tdiv x y) && x_1) (r_20 == IntKind.wrap .u64 (Int.tdiv x y))) (nm (bif !(fun x_1 => r == IntKind.wrap .u64 (Int.tdiv x y) && x_1) (r_20 == IntKind.wrap .u64 (Int.tdiv x y)) then true else !(fun x_1 => r_21 == Int.tmod x y && x_1) (r_22 == Int.tmod x y)) fun r => ob (y != 0) (y != 0) (ob (!y != 0) true (nm (bif y != 0 then r else false) fun r => br r (K (.bool false)) (K (.bool true)))))))))))))))))))))))))))))))))))))))))))))))))))))))))))))))))))))))))))))))))))))))))))))))))))))))))))))))))))) := by kernel_rfl
def nSou (p0 p1 q0 q1 n i k : Int) (K : Value → Prop) : Prop := run Try.prog TKl EEk true 90 9 [U2 p0 p1, U2 q0 q1, .int .i64 n, .int .u64 i, .int .u64 k] K
theorem nSou_eq (p0 p1 q0 q1 n i k : Int) (K : Value → Prop) : nSou p0 p1 q0 q1 n i k K = (need ((Go.Proofs.Ytnephcecobocdaa.VZu.u6 p0 ∧ Go.Proofs.Ytnephcecobocdaa.VZu.u6 p1) ∧ Go.Proofs.Ytnephcecobocdaa.VZu.u6 q0 ∧ Go.Proofs.Ytnephcecobocdaa.VZu.u6 q1) (nm (min p0 p1) fun r => nm (max p0 p1) fun r_1 => nm (min q0 q1) fun r_2 => nm (max q0 q1) fun r_3 => im (Go.Proofs.Ytnephcecobocdaa.VZdh.LH r r_1 ∧ Go.Proofs.Ytnephcecobocdaa.VZdh.LH r_2 r_3) (need (Go.Proofs.Ytnephcecobocdaa.VZdh.LH r r_1 ∧ Go.Proofs.Ytnephcecobocdaa.VZu.u6 i) (al fun x => im (Go.Proofs.Ytnephcecobocdaa.VZu.u6 x ∧ Go.Proofs.Ytnephcecobocdaa.SaM.inU r r_1 x) (need (Go.Proofs.Ytnephcecobocdaa.VZdh.LH r_2 r_3 ∧ Go.Proofs.Ytnephcecobocdaa.VZu.u6 k) (al fun x_1 => im (Go.Proofs.Ytnephcecobocdaa.VZu.u6 x_1 ∧ Go.Proofs.Ytnephcecobocdaa.SaM.inU r_2 r_3 x_1) (br (x_1 != 0) (ob true (x_1 != 0) (ob true (x_1 != 0) (nm (decide (r ≤ x ∧ x ≤ r_1)) fun r_4 => ob (!!r_4) (!!r_4) (ob (!!r_4) (!!r_4) (need (Go.Proofs.Ytnephcecobocdaa.VZdh.LH r r_1 ∧ Go.Proofs.Ytnephcecobocdaa.VZdh.LH r_2 r_3) (nm (Go.Proofs.Ytnephcecobocdaa.VZdb.uaL r r_1 r_2 r_3) fun r_5 => nm (Go.Proofs.Ytnephcecobocdaa.VZdb.uaH r r_1 r_2 r_3) fun r_6 => im (Go.Proofs.Ytnephcecobocdaa.VZdh.LH r_5 r_6) (ob (!!r_4) (!!r_4) (ob (!!r_4) (!!r_4) (ob (!!r_4) (!!r_4) (ob (!!r_4) (!!r_4) (nm (decide (r_5 ≤ IntKind.wrap .u64 (x + x_1) ∧ IntKind.wrap .u64 (x + x_1) ≤ r_6)) fun r_7 => ob (!!r_4) (!!r_4) (ob (!r_4) true (ob (!!r_4) (!!r_4) (nm (bif !r_4 then true else !r_7) fun r_8 => ob (!r_8) (!r_8) (ob (!r_8) (!r_8) (need (Go.Proofs.Ytnephcecobocdaa.VZdh.LH r r_1 ∧ Go.Proofs.Ytnephcecobocdaa.VZdh.LH r_2 r_3) (nm (Go.Proofs.Ytnephcecobocdaa.VZdb.usL r r_1 r_2 r_3) fun r_9 => nm (Go.Proofs.Ytnephcecobocdaa.VZdb.usH r r_1 r_2 r_3) fun r_10 => im (Go.Proofs.Ytnephcecobocdaa.VZdh.LH r_9 r_10) (ob (!r_8) (!r_8) (ob (!r_8) (!r_8) (ob (!r_8) (!r_8) (ob (!r_8) (!r_8) (nm (decide (r_9 ≤ IntKind.wrap .u64 (x - x_1) ∧ IntKind.wrap .u64 (x - x_1) ≤ r_10)) fun r_11 => ob (!r_8) (!r_8) (ob r_8 true (ob (!r_8) (!r_8) (nm (bif r_8 then true else !r_11) fun r_12 => ob (!r_12) (!r_12) (ob (!r_12) (!r_12) (need (Go.Proofs.Ytnephcecobocdaa.VZdh.LH r r_1 ∧ Go.Proofs.Ytnephcecobocdaa.VZdh.LH r_2 r_3) (nm (Go.Proofs.Ytnephcecobocdaa.VZdb.umL r r_1 r_2 r_3) fun r_13 => nm (Go.Proofs.Ytnephcecobocdaa.VZdb.umH r r_1 r_2 r_3) fun r_14 => im (Go.Proofs.Ytnephcecobocdaa.VZdh.LH r_13 r_14) (ob (!r_12) (!r_12) (ob (!r_12) (!r_12) (ob (!r_12) (!r_12) (ob (!r_12) (!r_12) (nm (decide (r_13 ≤ IntKind.wrap .u64 (x * x_1) ∧ IntKind.wrap .u64 (x * x_1) ≤ r_14)) fun r_15 => ob (!r_12) (!r_12) (ob r_12 true (ob (!r_12) (!r_12) (nm (bif r_12 then true else !r_15) fun r_16 => ob (!r_16) (!r_16) (ob (!r_16) (!r_16) (need (Go.Proofs.Ytnephcecobocdaa.VZdh.LH r r_1 ∧ Go.Proofs.Ytnephcecobocdaa.VZdh.LH r_2 r_3) (nm (Go.Proofs.Ytnephcecobocdaa.VZdb.udL r r_1 r_2 r_3) fun r_17 => nm (Go.Proofs.Ytnephcecobocdaa.VZdb.udH r r_1 r_2 r_3) fun r_18 => im (Go.Proofs.Ytnephcecobocdaa.VZdh.LH r_17 r_18) (ob (!r_16) (!r_16) (ob (!r_16) (!r_16) (nm (decide (r_17 ≤ IntKind.wrap .u64 (Int.tdiv x x_1) ∧ IntKind.wrap .u64 (Int.tdiv x x_1) ≤ r_18)) fun r_19 => ob (!r_16) (!r_16) (ob r_16 true (ob (!r_16) (!r_16) (nm (bif r_16 then true else !r_19) fun r_20 => ob (!r_20) (!r_20) (ob (!r_20) (!r_20) (need (Go.Proofs.Ytnephcecobocdaa.VZdh.LH r r_1 ∧ Go.Proofs.Ytnephcecobocdaa.VZdh.LH r_2 r_3) (nm (Go.Proofs.Ytnephcecobocdaa.VZdb.uoL r r_1 r_2 r_3) fun r_21 => nm (Go.Proofs.Ytnephcecobocdaa.VZdb.uoH r r_1 r_2 r_3) fun r_22 => im (Go.Proofs.Ytnephcecobocdaa.VZdh.LH r_21 r_22) (ob (!r_20) (!r_20) (ob (!r_20) (!r_20) (nm (decide (r_21 ≤ Int.tmod x x_1 ∧ Int.tmod x x_1 ≤ r_22)) fun r_23 => ob (!r_20) (!r_20) (ob r_20 true (ob (!r_20) (!r_20) (nm (bif r_20 then true else !r_23) fun r_24 => br r_24 (K (.bool false)) (need (Go.Proofs.Ytnephcecobocdaa.VZdh.LH r r_1 ∧ Go.Proofs.Ytnephcecobocdaa.VZdh.LH r_2 r_3) (nm (Go.Proofs.Ytnephcecobocdaa.VZdb.unL r r_1 r_2 r_3) fun r_25 => nm (Go.Proofs.Ytnephcecobocdaa.VZdb.unH r r_1 r_2 r_3) fun r_26 => im (Go.Proofs.Ytnephcecobocdaa.VZdh.LH r_25 r_26) (nm (decide (r_25 ≤ Go.bits .and .u64 x x_1 ∧ Go.bits .and .u64 x x_1 ≤ r_26)) fun r_27 => ob (!!r_27) (!!r_27) (ob (!!r_27) (!!r_27) (need (Go.Proofs.Ytnephcecobocdaa.VZdh.LH r r_1 ∧ Go.Proofs.Ytnephcecobocdaa.VZdh.LH r_2 r_3) (nm (Go.Proofs.Ytnephcecobocdaa.VZdg.uoL' r r_1 r_2 r_3) fun r_28 => nm (Go.Proofs.Ytnephcecobocdaa.VZdg.uoH' r r_1 r_2 r_3) fun r_29 => im (Go.Proofs.Ytnephcecobocdaa.VZdh.LH r_28 r_29) (ob (!!r_27) (!!r_27) (ob (!!r_27) (!!r_27) (ob (!!r_27) (!!r_27) (ob (!!r_27) (!!r_27) (nm (decide (r_28 ≤ Go.bits .or .u64 x x_1 ∧ Go.bits .or .u64 x x_1 ≤ r_29)) fun r_30 => ob (!!r_27) (!!r_27) (ob (!r_27) true (ob (!!r_27) (!!r_27) (nm (bif !r_27 then true else !r_30) fun r_31 => ob (!r_31) (!r_31) (ob (!r_31) (!r_31) (need (Go.Proofs.Ytnephcecobocdaa.VZdh.LH r r_1 ∧ Go.Proofs.Ytnephcecobocdaa.VZcf.i6 n) (nm (Go.Proofs.Ytnephcecobocdaa.VZdg.ulL r r_1 n) fun r_32 => nm (Go.Proofs.Ytnephcecobocdaa.VZdg.ulH r r_1 n) fun r_33 => ob (!r_31) (!r_31) (ob (!r_31) (!r_31) (ob (!r_31) (decide (0 ≤ IntKind.wrap .u64 (Go.bits .and .i64 n 63))) (ob (!r_31) (!r_31) (ob (!r_31) (!r_31) (nm (decide (r_32 ≤ IntKind.wrap .u64 (x * 2 ^ min (Int.toNat (IntKind.wrap .u64 (Go.bits .and .i64 n 63))) (IntKind.bits .u64)) ∧ IntKind.wrap .u64 (x * 2 ^ min (Int.toNat (IntKind.wrap .u64 (Go.bits .and .i64 n 63))) (IntKind.bits .u64)) ≤ r_33)) fun r_34 => ob (!r_31) (!r_31) (ob r_31 true (ob (!r_31) (!r_31) (nm (bif r_31 then true else !r_34) fun r_35 => ob (!r_35) (!r_35) (ob (!r_35) (!r_35) (need (Go.Proofs.Ytnephcecobocdaa.VZdh.LH r r_1 ∧ Go.Proofs.Ytnephcecobocdaa.VZcf.i6 n) (nm (Go.Proofs.Ytnephcecobocdaa.SaT.dL r r_1 n) fun r_36 => nm (Go.Proofs.Ytnephcecobocdaa.SaT.dH r r_1 n) fun r_37 => ob (!r_35) (!r_35) (ob (!r_35) (!r_35) (ob (!r_35) (decide (0 ≤ IntKind.wrap .u64 (Go.bits .and .i64 n 63))) (ob (!r_35) (!r_35) (ob (!r_35) (!r_35) (nm (decide (r_36 ≤ x / 2 ^ min (Int.toNat (IntKind.wrap .u64 (Go.bits .and .i64 n 63))) (IntKind.bits .u64) ∧ x / 2 ^ min (Int.toNat (IntKind.wrap .u64 (Go.bits .and .i64 n 63))) (IntKind.bits .u64) ≤ r_37)) fun r_38 => ob (!r_35) (!r_35) (ob r_35 true (ob (!r_35) (!r_35) (nm (bif r_35 then true else !r_38) fun r_39 => ob (!r_39) (!r_39) (need (Go.Proofs.Ytnephcecobocdaa.VZdh.LH r r_1) (nm (Go.Proofs.Ytnephcecobocdaa.VZdb.ucL r r_1) fun r_40 => nm (Go.Proofs.Ytnephcecobocdaa.VZdb.ucH r r_1) fun r_41 => im (Go.Proofs.Ytnephcecobocdaa.VZdh.LH r_40 r_41) (ob (!r_39) (!r_39) (ob (!r_39) true (ob (!r_39) (!r_39) (ob (!r_39) (!r_39) (nm (decide (r_40 ≤ Int.tmod x 4294967296 ∧ Int.tmod x 4294967296 ≤ r_41)) fun r_42 => ob (!r_39) (!r_39) (ob r_39 true (ob (!r_39) (!r_39) (nm (bif r_39 then true else !r_42) fun r_43 => ob (!r_43) (!r_43) (need (Go.Proofs.Ytnephcecobocdaa.VZdh.LH r r_1) (nm (Go.Proofs.Ytnephcecobocdaa.SaT.tsL r r_1) fun r_44 => nm (Go.Proofs.Ytnephcecobocdaa.SaT.tsH r r_1) fun r_45 => ob (!r_43) (!r_43) (ob (!r_43) (!r_43) (nm (decide (r_44 ≤ IntKind.wrap .i64 x ∧ IntKind.wrap .i64 x ≤ r_45)) fun r_46 => ob (!r_43) (!r_43) (ob r_43 true (ob (!r_43) (!r_43) (nm (bif r_43 then true else !r_46) fun r_47 => br r_47 (K (.bool false)) (need (Go.Proofs.Ytnephcecobocdaa.VZdh.LH r r_1) (nm (Go.Proofs.Ytnephcecobocdaa.VZbc.ttV r r_1) fun r_48 => nm (Go.Proofs.Ytnephcecobocdaa.VZbc.ttM r r_1) fun r => ob (Go.bits .andNot .u64 x r == r_48) (Go.bits .andNot .u64 x r == r_48) (ob (Go.bits .andNot .u64 x r == r_48) (Go.bits .andNot .u64 x r == r_48) (ob (Go.bits .andNot .u64 x r == r_48) (Go.bits .andNot .u64 x r == r_48) (ob (Go.bits .andNot .u64 x r == r_48) (Go.bits .andNot .u64 x r == r_48) (ob (Go.bits .andNot .u64 x r == r_48) (Go.bits .andNot .u64 x r == r_48) (ob (Go.bits .andNot .u64 x r == r_48) (Go.bits .andNot .u64 x r == r_48) (ob (Go.bits .andNot .u64 x r == r_48) (Go.bits .andNot .u64 x r == r_48) (ob (!Go.bits .andNot .u64 x r == r_48) true (nm (bif Go.bits .andNot .u64 x r == r_48 then Go.bits .and .u64 r_48 r == 0 else false) fun r => ob r r (ob (!r) true (nm (bif r then true else false) fun r => K (.bool r)))))))))))))))))))))))))))))))))))))))))))))))))))))))))))))))))))))))))))))))))))))))))))))))))))))))))))))))))))))))) (nm (decide (r ≤ x ∧ x ≤ r_1)) fun r_4 => ob (!!r_4) (!!r_4) (ob (!!r_4) (!!r_4) (need (Go.Proofs.Ytnephcecobocdaa.VZdh.LH r r_1 ∧ Go.Proofs.Ytnephcecobocdaa.VZdh.LH r_2 r_3) (nm (Go.Proofs.Ytnephcecobocdaa.VZdb.uaL r r_1 r_2 r_3) fun r_5 => nm (Go.Proofs.Ytnephcecobocdaa.VZdb.uaH r r_1 r_2 r_3) fun r_6 => im (Go.Proofs.Ytnephcecobocdaa.VZdh.LH r_5 r_6) (ob (!!r_4) (!!r_4) (ob (!!r_4) (!!r_4) (ob (!!r_4) (!!r_4) (ob (!!r_4) (!!r_4) (nm (decide (r_5 ≤ IntKind.wrap .u64 (x + x_1) ∧ IntKind.wrap .u64 (x + x_1) ≤ r_6)) fun r_7 => ob (!!r_4) (!!r_4) (ob (!r_4) true (ob (!!r_4) (!!r_4) (nm (bif !r_4 then true else !r_7) fun r_8 => ob (!r_8) (!r_8) (ob (!r_8) (!r_8) (need (Go.Proofs.Ytnephcecobocdaa.VZdh.LH r r_1 ∧ Go.Proofs.Ytnephcecobocdaa.VZdh.LH r_2 r_3) (nm (Go.Proofs.Ytnephcecobocdaa.VZdb.usL r r_1 r_2 r_3) fun r_9 => nm (Go.Proofs.Ytnephcecobocdaa.VZdb.usH r r_1 r_2 r_3) fun r_10 => im (Go.Proofs.Ytnephcecobocdaa.VZdh.LH r_9 r_10) (ob (!r_8) (!r_8) (ob (!r_8) (!r_8) (ob (!r_8) (!r_8) (ob (!r_8) (!r_8) (nm (decide (r_9 ≤ IntKind.wrap .u64 (x - x_1) ∧ IntKind.wrap .u64 (x - x_1) ≤ r_10)) fun r_11 => ob (!r_8) (!r_8) (ob r_8 true (ob (!r_8) (!r_8) (nm (bif r_8 then true else !r_11) fun r_12 => ob (!r_12) (!r_12) (ob (!r_12) (!r_12) (need (Go.Proofs.Ytnephcecobocdaa.VZdh.LH r r_1 ∧ Go.Proofs.Ytnephcecobocdaa.VZdh.LH r_2 r_3) (nm (Go.Proofs.Ytnephcecobocdaa.VZdb.umL r r_1 r_2 r_3) fun r_13 => nm (Go.Proofs.Ytnephcecobocdaa.VZdb.umH r r_1 r_2 r_3) fun r_14 => im (Go.Proofs.Ytnephcecobocdaa.VZdh.LH r_13 r_14) (ob (!r_12) (!r_12) (ob (!r_12) (!r_12) (ob (!r_12) (!r_12) (ob (!r_12) (!r_12) (nm (decide (r_13 ≤ IntKind.wrap .u64 (x * x_1) ∧ IntKind.wrap .u64 (x * x_1) ≤ r_14)) fun r_15 => ob (!r_12) (!r_12) (ob r_12 true (ob (!r_12) (!r_12) (nm (bif r_12 then true else !r_15) fun r_16 => ob (!r_16) (!r_16) (ob (!r_16) (!r_16) (need (Go.Proofs.Ytnephcecobocdaa.VZdh.LH r r_1 ∧ Go.Proofs.Ytnephcecobocdaa.VZdh.LH r_2 r_3) (nm (Go.Proofs.Ytnephcecobocdaa.VZdb.udL r r_1 r_2 r_3) fun r_17 => nm (Go.Proofs.Ytnephcecobocdaa.VZdb.udH r r_1 r_2 r_3) fun r_18 => im (Go.Proofs.Ytnephcecobocdaa.VZdh.LH r_17 r_18) (ob (!r_16) (!r_16) (ob (!r_16) (!r_16) (nm (decide (r_17 ≤ 0 ∧ 0 ≤ r_18)) fun r_19 => ob (!r_16) (!r_16) (ob r_16 true (ob (!r_16) (!r_16) (nm (bif r_16 then true else !r_19) fun r_20 => ob (!r_20) (!r_20) (ob (!r_20) (!r_20) (need (Go.Proofs.Ytnephcecobocdaa.VZdh.LH r r_1 ∧ Go.Proofs.Ytnephcecobocdaa.VZdh.LH r_2 r_3) (nm (Go.Proofs.Ytnephcecobocdaa.VZdb.uoL r r_1 r_2 r_3) fun r_21 => nm (Go.Proofs.Ytnephcecobocdaa.VZdb.uoH r r_1 r_2 r_3) fun r_22 => im (Go.Proofs.Ytnephcecobocdaa.VZdh.LH r_21 r_22) (ob (!r_20) (!r_20) (ob (!r_20) (!r_20) (nm (decide (r_21 ≤ x ∧ x ≤ r_22)) fun r_23 => ob (!r_20) (!r_20) (ob r_20 true (ob (!r_20) (!r_20) (nm (bif r_20 then true else !r_23) fun r_24 => br r_24 (K (.bool false)) (need (Go.Proofs.Ytnephcecobocdaa.VZdh.LH r r_1 ∧ Go.Proofs.Ytnephcecobocdaa.VZdh.LH r_2 r_3) (nm (Go.Proofs.Ytnephcecobocdaa.VZdb.unL r r_1 r_2 r_3) fun r_25 => nm (Go.Proofs.Ytnephcecobocdaa.VZdb.unH r r_1 r_2 r_3) fun r_26 => im (Go.Proofs.Ytnephcecobocdaa.VZdh.LH r_25 r_26) (nm (decide (r_25 ≤ Go.bits .and .u64 x x_1 ∧ Go.bits .and .u64 x x_1 ≤ r_26)) fun r_27 => ob (!!r_27) (!!r_27) (ob (!!r_27) (!!r_27) (need (Go.Proofs.Ytnephcecobocdaa.VZdh.LH r r_1 ∧ Go.Proofs.Ytnephcecobocdaa.VZdh.LH r_2 r_3) (nm (Go.Proofs.Ytnephcecobocdaa.VZdg.uoL' r r_1 r_2 r_3) fun r_28 => nm (Go.Proofs.Ytnephcecobocdaa.VZdg.uoH' r r_1 r_2 r_3) fun r_29 => im (Go.Proofs.Ytnephcecobocdaa.VZdh.LH r_28 r_29) (ob (!!r_27) (!!r_27) (ob (!!r_27) (!!r_27) (ob (!!r_27) (!!r_27) (ob (!!r_27) (!!r_27) (nm (decide (r_28 ≤ Go.bits .or .u64 x x_1 ∧ Go.bits .or .u64 x x_1 ≤ r_29)) fun r_30 => ob (!!r_27) (!!r_27) (ob (!r_27) true (ob (!!r_27) (!!r_27) (nm (bif !r_27 then true else !r_30) fun r_31 => ob (!r_31) (!r_31) (ob (!r_31) (!r_31) (need (Go.Proofs.Ytnephcecobocdaa.VZdh.LH r r_1 ∧ Go.Proofs.Ytnephcecobocdaa.VZcf.i6 n) (nm (Go.Proofs.Ytnephcecobocdaa.VZdg.ulL r r_1 n) fun r_32 => nm (Go.Proofs.Ytnephcecobocdaa.VZdg.ulH r r_1 n) fun r_33 => ob (!r_31) (!r_31) (ob (!r_31) (!r_31) (ob (!r_31) (decide (0 ≤ IntKind.wrap .u64 (Go.bits .and .i64 n 63))) (ob (!r_31) (!r_31) (ob (!r_31) (!r_31) (nm (decide (r_32 ≤ IntKind.wrap .u64 (x * 2 ^ min (Int.toNat (IntKind.wrap .u64 (Go.bits .and .i64 n 63))) (IntKind.bits .u64)) ∧ IntKind.wrap .u64 (x * 2 ^ min (Int.toNat (IntKind.wrap .u64 (Go.bits .and .i64 n 63))) (IntKind.bits .u64)) ≤ r_33)) fun r_34 => ob (!r_31) (!r_31) (ob r_31 true (ob (!r_31) (!r_31) (nm (bif r_31 then true else !r_34) fun r_35 => ob (!r_35) (!r_35) (ob (!r_35) (!r_35) (need (Go.Proofs.Ytnephcecobocdaa.VZdh.LH r r_1 ∧ Go.Proofs.Ytnephcecobocdaa.VZcf.i6 n) (nm (Go.Proofs.Ytnephcecobocdaa.SaT.dL r r_1 n) fun r_36 => nm (Go.Proofs.Ytnephcecobocdaa.SaT.dH r r_1 n) fun r_37 => ob (!r_35) (!r_35) (ob (!r_35) (!r_35) (ob (!r_35) (decide (0 ≤ IntKind.wrap .u64 (Go.bits .and .i64 n 63))) (ob (!r_35) (!r_35) (ob (!r_35) (!r_35) (nm (decide (r_36 ≤ x / 2 ^ min (Int.toNat (IntKind.wrap .u64 (Go.bits .and .i64 n 63))) (IntKind.bits .u64) ∧ x / 2 ^ min (Int.toNat (IntKind.wrap .u64 (Go.bits .and .i64 n 63))) (IntKind.bits .u64) ≤ r_37)) fun r_38 => ob (!r_35) (!r_35) (ob r_35 true (ob (!r_35) (!r_35) (nm (bif r_35 then true else !r_38) fun r_39 => ob (!r_39) (!r_39) (need (Go.Proofs.Ytnephcecobocdaa.VZdh.LH r r_1) (nm (Go.Proofs.Ytnephcecobocdaa.VZdb.ucL r r_1) fun r_40 => nm (Go.Proofs.Ytnephcecobocdaa.VZdb.ucH r r_1) fun r_41 => im (Go.Proofs.Ytnephcecobocdaa.VZdh.LH r_40 r_41) (ob (!r_39) (!r_39) (ob (!r_39) true (ob (!r_39) (!r_39) (ob (!r_39) (!r_39) (nm (decide (r_40 ≤ Int.tmod x 4294967296 ∧ Int.tmod x 4294967296 ≤ r_41)) fun r_42 => ob (!r_39) (!r_39) (ob r_39 true (ob (!r_39) (!r_39) (nm (bif r_39 then true else !r_42) fun r_43 => ob (!r_43) (!r_43) (need (Go.Proofs.Ytnephcecobocdaa.VZdh.LH r r_1) (nm (Go.Proofs.Ytnephcecobocdaa.SaT.tsL r r_1) fun r_44 => nm (Go.Proofs.Ytnephcecobocdaa.SaT.tsH r r_1) fun r_45 => ob (!r_43) (!r_43) (ob (!r_43) (!r_43) (nm (decide (r_44 ≤ IntKind.wrap .i64 x ∧ IntKind.wrap .i64 x ≤ r_45)) fun r_46 => ob (!r_43) (!r_43) (ob r_43 true (ob (!r_43) (!r_43) (nm (bif r_43 then true else !r_46) fun r_47 => br r_47 (K (.bool false)) (need (Go.Proofs.Ytnephcecobocdaa.VZdh.LH r r_1) (nm (Go.Proofs.Ytnephcecobocdaa.VZbc.ttV r r_1) fun r_48 => nm (Go.Proofs.Ytnephcecobocdaa.VZbc.ttM r r_1) fun r => ob (Go.bits .andNot .u64 x r == r_48) (Go.bits .andNot .u64 x r == r_48) (ob (Go.bits .andNot .u64 x r == r_48) (Go.bits .andNot .u64 x r == r_48) (ob (Go.bits .andNot .u64 x r == r_48) (Go.bits .andNot .u64 x r == r_48) (ob (Go.bits .andNot .u64 x r == r_48) (Go.bits .andNot .u64 x r == r_48) (ob (Go.bits .andNot .u64 x r == r_48) (Go.bits .andNot .u64 x r == r_48) (ob (Go.bits .andNot .u64 x r == r_48) (Go.bits .andNot .u64 x r == r_48) (ob (Go.bits .andNot .u64 x r == r_48) (Go.bits .andNot .u64 x r == r_48) (ob (!Go.bits .andNot .u64 x r == r_48) true (nm (bif Go.bits .andNot .u64 x r == r_48 then Go.bits .and .u64 r_48 r == 0 else false) fun r => ob r r (ob (!r) true (nm (bif r then true else false) fun r => K (.bool r))))))))))))))))))))))))))))))))))))))))))))))))))))))))))))))))))))))))))))))))))))))))))))))))))))))))))))))))))))))))))))) := by kernel_rfl
def nUns (p0 p1 q0 q1 n v : Int) (K : Value → Prop) : Prop := run Try.prog TKl EEk true 90 10 [U2 p0 p1, U2 q0 q1, .int .i64 n, .int .u64 v] K
theorem nUns_eq (p0 p1 q0 q1 n v : Int) (K : Value → Prop) : nUns p0 p1 q0 q1 n v K = (need ((Go.Proofs.Ytnephcecobocdaa.VZu.u6 p0 ∧ Go.Proofs.Ytnephcecobocdaa.VZu.u6 p1) ∧ Go.Proofs.Ytnephcecobocdaa.VZu.u6 q0 ∧ Go.Proofs.Ytnephcecobocdaa.VZu.u6 q1) (nm (min p0 p1) fun r => nm (max p0 p1) fun r_1 => nm (min q0 q1) fun r_2 => nm (max q0 q1) fun r_3 => im (Go.Proofs.Ytnephcecobocdaa.VZdh.LH r r_1 ∧ Go.Proofs.Ytnephcecobocdaa.VZdh.LH r_2 r_3) (nm (decide (max r r_2 ≤ min r_1 r_3)) fun r_4 => nm (bif r_4 then max r r_2 else 0) fun r_5 => nm (bif r_4 then min r_1 r_3 else 0) fun r_6 => nm (decide (max r r_2 ≤ min r_1 r_3)) fun r_7 => nm (bif r_7 then max r r_2 else 0) fun r_8 => nm (bif r_7 then min r_1 r_3 else 0) fun r_9 => ob (!!(fun x => r_5 == r_8 && x) (r_6 == r_9)) (!!(fun x => r_5 == r_8 && x) (r_6 == r_9)) (ob (!!(fun x => r_5 == r_8 && x) (r_6 == r_9)) (!!(fun x => r_5 == r_8 && x) (r_6 == r_9)) (ob (!!(fun x => r_5 == r_8 && x) (r_6 == r_9)) (!!(fun x => r_5 == r_8 && x) (r_6 == r_9)) (ob (!!(fun x => r_5 == r_8 && x) (r_6 == r_9)) (!!(fun x => r_5 == r_8 && x) (r_6 == r_9)) (ob (!(fun x => r_5 == r_8 && x) (r_6 == r_9)) true (ob (!!(fun x => r_5 == r_8 && x) (r_6 == r_9)) (!!(fun x => r_5 == r_8 && x) (r_6 == r_9)) (nm (bif !(fun x => r_5 == r_8 && x) (r_6 == r_9) then true else !r_4 == r_7) fun r_10 => ob (!r_10) (!r_10) (ob (!r_10) (!r_10) (nm (decide (r ≤ v ∧ v ≤ r_1)) fun r_11 => ob (!r_10) (!r_10) (ob (!r_10) (!r_10) (nm (decide (r ≤ v ∧ v ≤ r_1)) fun r_12 => ob (!r_10) (!r_10) (ob (!r_10) (!r_10) (ob (!r_10) (!r_10) (ob (!r_10) (!r_10) (ob r_10 true (ob (!r_10) (!r_10) (nm (bif r_10 then true else !r_11 == r_12) fun r_13 => ob (!r_13) (!r_13) (ob (!r_13) (!r_13) (need (r ≤ r_1) (nm (decide (r_2 ≤ r ∧ r_1 ≤ r_3)) fun r_14 => ob (!r_13) (!r_13) (ob (!r_13) (!r_13) (need (r ≤ r_1) (nm (decide (r_2 ≤ r ∧ r_1 ≤ r_3)) fun r_15 => ob (!r_13) (!r_13) (ob (!r_13) (!r_13) (ob (!r_13) (!r_13) (ob (!r_13) (!r_13) (ob r_13 true (ob (!r_13) (!r_13) (nm (bif r_13 then true else !r_14 == r_15) fun r_16 => ob (!r_16) (!r_16) (ob (!r_16) (!r_16) (nm (min r r_2) fun r_17 => nm (max r_1 r_3) fun r_18 => ob (!r_16) (!r_16) (ob (!r_16) (!r_16) (nm (min r r_2) fun r_19 => nm (max r_1 r_3) fun r_20 => ob (!r_16) (!r_16) (ob (!r_16) (!r_16) (ob r_16 true (ob (!r_16) (!r_16) (nm (bif r_16 then true else !(fun x => r_17 == r_19 && x) (r_18 == r_20)) fun r_21 => br r_21 (K (.bool false)) (need (Go.Proofs.Ytnephcecobocdaa.VZdh.LH r r_1 ∧ Go.Proofs.Ytnephcecobocdaa.VZdh.LH r_2 r_3) (nm (Go.Proofs.Ytnephcecobocdaa.VZdb.uaL r r_1 r_2 r_3) fun r_22 => nm (Go.Proofs.Ytnephcecobocdaa.VZdb.uaH r r_1 r_2 r_3) fun r_23 => im (Go.Proofs.Ytnephcecobocdaa.VZdh.LH r_22 r_23) (need (Go.Proofs.Ytnephcecobocdaa.VZdh.LH r r_1 ∧ Go.Proofs.Ytnephcecobocdaa.VZdh.LH r_2 r_3) (nm (Go.Proofs.Ytnephcecobocdaa.VZdb.uaL r r_1 r_2 r_3) fun r_24 => nm (Go.Proofs.Ytnephcecobocdaa.VZdb.uaH r r_1 r_2 r_3) fun r_25 => im (Go.Proofs.Ytnephcecobocdaa.VZdh.LH r_24 r_25) (ob (!!(fun x => r_22 == r_24 && x) (r_23 == r_25)) (!!(fun x => r_22 == r_24 && x) (r_23 == r_25)) (ob (!!(fun x => r_22 == r_24 && x) (r_23 == r_25)) (!!(fun x => r_22 == r_24 && x) (r_23 == r_25)) (need (Go.Proofs.Ytnephcecobocdaa.VZdh.LH r r_1 ∧ Go.Proofs.Ytnephcecobocdaa.VZdh.LH r_2 r_3) (nm (Go.Proofs.Ytnephcecobocdaa.VZdb.usL r r_1 r_2 r_3) fun r_26 => nm (Go.Proofs.Ytnephcecobocdaa.VZdb.usH r r_1 r_2 r_3) fun r_27 => im (Go.Proofs.Ytnephcecobocdaa.VZdh.LH r_26 r_27) (ob (!!(fun x => r_22 == r_24 && x) (r_23 == r_25)) (!!(fun x => r_22 == r_24 && x) (r_23 == r_25)) (ob (!!(fun x => r_22 == r_24 && x) (r_23 == r_25)) (!!(fun x => r_22 == r_24 && x) (r_23 == r_25)) (need (Go.Proofs.Ytnephcecobocdaa.VZdh.LH r r_1 ∧ Go.Proofs.Ytnephcecobocdaa.VZdh.LH r_2 r_3) (nm (Go.Proofs.Ytnephcecobocdaa.VZdb.usL r r_1 r_2 r_3) fun r_28 => nm (Go.Proofs.Ytnephcecobocdaa.VZdb.usH r r_1 r_2 r_3) fun r_29 => im (Go.Proofs.Ytnephcecobocdaa.VZdh.LH r_28 r_29) (ob (!!(fun x => r_22 == r_24 && x) (r_23 == r_25)) (!!(fun x => r_22 == r_24 && x) (r_23 == r_25)) (ob (!!(fun x => r_22 == r_24 && x) (r_23 == r_25)) (!!(fun x => r_22 == r_24 && x) (r_23 == r_25)) (ob (!(fun x => r_22 == r_24 && x) (r_23 == r_25)) true (ob (!!(fun x => r_22 == r_24 && x) (r_23 == r_25)) (!!(fun x => r_22 == r_24 && x) (r_23 == r_25)) (nm (bif !(fun x => r_22 == r_24 && x) (r_23 == r_25) then true else !(fun x => r_26 == r_28 && x) (r_27 == r_29)) fun r_30 => ob (!r_30) (!r_30) (ob (!r_30) (!r_30) (need (Go.Proofs.Ytnephcecobocdaa.VZdh.LH r r_1 ∧ Go.Proofs.Ytnephcecobocdaa.VZdh.LH r_2 r_3) (nm (Go.Proofs.Ytnephcecobocdaa.VZdb.umL r r_1 r_2 r_3) fun r_31 => nm (Go.Proofs.Ytnephcecobocdaa.VZdb.umH r r_1 r_2 r_3) fun r_32 => im (Go.Proofs.Ytnephcecobocdaa.VZdh.LH r_31 r_32) (ob (!r_30) (!r_30) (ob (!r_30) (!r_30) (need (Go.Proofs.Ytnephcecobocdaa.VZdh.LH r r_1 ∧ Go.Proofs.Ytnephcecobocdaa.VZdh.LH r_2 r_3) (nm (Go.Proofs.Ytnephcecobocdaa.VZdb.umL r r_1 r_2 r_3) fun r_33 => nm (Go.Proofs.Ytnephcecobocdaa.VZdb.umH r r_1 r_2 r_3) fun r_34 => im (Go.Proofs.Ytnephcecobocdaa.VZdh.LH r_33 r_34) (ob (!r_30) (!r_30) (ob (!r_30) (!r_30) (ob r_30 true (ob (!r_30) (!r_30) (nm (bif r_30 then true else !(fun x => r_31 == r_33 && x) (r_32 == r_34)) fun r_35 => ob (!r_35) (!r_35) (ob (!r_35) (!r_35) (need (Go.Proofs.Ytnephcecobocdaa.VZdh.LH r r_1 ∧ Go.Proofs.Ytnephcecobocdaa.VZdh.LH r_2 r_3) (nm (Go.Proofs.Ytnephcecobocdaa.VZdb.udL r r_1 r_2 r_3) fun r_36 => nm (Go.Proofs.Ytnephcecobocdaa.VZdb.udH r r_1 r_2 r_3) fun r_37 => im (Go.Proofs.Ytnephcecobocdaa.VZdh.LH r_36 r_37) (ob (!r_35) (!r_35) (ob (!r_35) (!r_35) (need (Go.Proofs.Ytnephcecobocdaa.VZdh.LH r r_1 ∧ Go.Proofs.Ytnephcecobocdaa.VZdh.LH r_2 r_3) (nm (Go.Proofs.Ytnephcecobocdaa.VZdb.udL r r_1 r_2 r_3) fun r_38 => nm (Go.Proofs.Ytnephcecobocdaa.VZdb.udH r r_1 r_2 r_3) fun r_39 => im (Go.Proofs.Ytnephcecobocdaa.VZdh.LH r_38 r_39) (ob (!r_35) (!r_35) (ob (!r_35) (!r_35) (ob r_35 true (ob (!r_35) (!r_35) (nm (bif r_35 then true else !(fun x => r_36 == r_38 && x) (r_37 == r_39)) fun r_40 => ob (!r_40) (!r_40) (ob (!r_40) (!r_40) (need (Go.Proofs.Ytnephcecobocdaa.VZdh.LH r r_1 ∧ Go.Proofs.Ytnephcecobocdaa.VZdh.LH r_2 r_3) (nm (Go.Proofs.Ytnephcecobocdaa.VZdb.uoL r r_1 r_2 r_3) fun r_41 => nm (Go.Proofs.Ytnephcecobocdaa.VZdb.uoH r r_1 r_2 r_3) fun r_42 => im (Go.Proofs.Ytnephcecobocdaa.VZdh.LH r_41 r_42) (ob (!r_40) (!r_40) (ob (!r_40) (!r_40) (need (Go.Proofs.Ytnephcecobocdaa.VZdh.LH r r_1 ∧ Go.Proofs.Ytnephcecobocdaa.VZdh.LH r_2 r_3) (nm (Go.Proofs.Ytnephcecobocdaa.VZdb.uoL r r_1 r_2 r_3) fun r_43 => nm (Go.Proofs.Ytnephcecobocdaa.VZdb.uoH r r_1 r_2 r_3) fun r_44 => im (Go.Proofs.Ytnephcecobocdaa.VZdh.LH r_43 r_44) (ob (!r_40) (!r_40) (ob (!r_40) (!r_40) (ob r_40 true (ob (!r_40) (!r_40) (nm (bif r_40 then true else !(fun x => r_41 == r_43 && x) (r_42 == r_44)) fun r_45 => br r_45 (K (.bool false)) (need (Go.Proofs.Ytnephcecobocdaa.VZdh.LH r r_1 ∧ Go.Proofs.Ytnephcecobocdaa.VZdh.LH r_2 r_3) (nm (Go.Proofs.Ytnephcecobocdaa.VZdb.unL r r_1 r_2 r_3) fun r_46 => nm (Go.Proofs.Ytnephcecobocdaa.VZdb.unH r r_1 r_2 r_3) fun r_47 => im (Go.Proofs.Ytnephcecobocdaa.VZdh.LH r_46 r_47) (need (Go.Proofs.Ytnephcecobocdaa.VZdh.LH r r_1 ∧ Go.Proofs.Ytnephcecobocdaa.VZdh.LH r_2 r_3) (nm (Go.Proofs.Ytnephcecobocdaa.VZdb.unL r r_1 r_2 r_3) fun r_48 => nm (Go.Proofs.Ytnephcecobocdaa.VZdb.unH r r_1 r_2 r_3) fun r_49 => im (Go.Proofs.Ytnephcecobocdaa.VZdh.LH r_48 r_49) (ob (!!(fun x => r_46 == r_48 && x) (r_47 == r_49)) (!!(fun x => r_46 == r_48 && x) (r_47 == r_49)) (ob (!!(fun x => r_46 == r_48 && x) (r_47 == r_49)) (!!(fun x => r_46 == r_48 && x) (r_47 == r_49)) (need (Go.Proofs.Ytnephcecobocdaa.VZdh.LH r r_1 ∧ Go.Proofs.Ytnephcecobocdaa.VZdh.LH r_2 r_3) (nm (Go.Proofs.Ytnephcecobocdaa.VZdg.uoL' r r_1 r_2 r_3) fun r_50 => nm (Go.Proofs.Ytnephcecobocdaa.VZdg.uoH' r r_1 r_2 r_3) fun r_51 => im (Go.Proofs.Ytnephcecobocdaa.VZdh.LH r_50 r_51) (ob (!!(fun x => r_46 == r_48 && x) (r_47 == r_49)) (!!(fun x => r_46 == r_48 && x) (r_47 == r_49)) (ob (!!(fun x => r_46 == r_48 && x) (r_47 == r_49)) (!!(fun x => r_46 == r_48 && x) (r_47 == r_49)) (need (Go.Proofs.Ytnephcecobocdaa.VZdh.LH r r_1 ∧ Go.Proofs.Ytnephcecobocdaa.VZdh.LH r_2 r_3) (nm (Go.Proofs.Ytnephcecobocdaa.VZdg.uoL' r r_1 r_2 r_3) fun r_52 => nm (Go.Proofs.Ytnephcecobocdaa.VZdg.uoH' r r_1 r_2 r_3) fun r_53 => im (Go.Proofs.Ytnephcecobocdaa.VZdh.LH r_52 r_53) (ob (!!(fun x => r_46 == r_48 && x) (r_47 == r_49)) (!!(fun x => r_46 == r_48 && x) (r_47 == r_49)) (ob (!!(fun x => r_46 == r_48 && x) (r_47 == r_49)) (!!(fun x => r_46 == r_48 && x) (r_47 == r_49)) (ob (!(fun x => r_46 == r_48 && x) (r_47 == r_49)) true (ob (!!(fun x => r_46 == r_48 && x) (r_47 == r_49)) (!!(fun x => r_46 == r_48 && x) (r_47 == r_49)) (nm (bif !(fun x => r_46 == r_48 && x) (r_47 == r_49) then true else !(fun x => r_50 == r_52 && x) (r_51 == r_53)) fun r_54 => ob (!r_54) (!r_54) (ob (!r_54) (!r_54) (need (Go.Proofs.Ytnephcecobocdaa.VZdh.LH r r_1 ∧ Go.Proofs.Ytnephcecobocdaa.VZcf.i6 n) (nm (Go.Proofs.Ytnephcecobocdaa.VZdg.ulL r r_1 n) fun r_55 => nm (Go.Proofs.Ytnephcecobocdaa.VZdg.ulH r r_1 n) fun r_56 => ob (!r_54) (!r_54) (ob (!r_54) (!r_54) (need (Go.Proofs.Ytnephcecobocdaa.VZdh.LH r r_1 ∧ Go.Proofs.Ytnephcecobocdaa.VZcf.i6 n) (nm (Go.Proofs.Ytnephcecobocdaa.VZdg.ulL r r_1 n) fun r_57 => nm (Go.Proofs.Ytnephcecobocdaa.VZdg.ulH r r_1 n) fun r_58 => ob (!r_54) (!r_54) (ob (!r_54) (!r_54) (ob r_54 true (ob (!r_54) (!r_54) (nm (bif r_54 then true else !(fun x => r_55 == r_57 && x) (r_56 == r_58)) fun r_59 => ob (!r_59) (!r_59) (ob (!r_59) (!r_59) (need (Go.Proofs.Ytnephcecobocdaa.VZdh.LH r r_1 ∧ Go.Proofs.Ytnephcecobocdaa.VZcf.i6 n) (nm (Go.Proofs.Ytnephcecobocdaa.SaT.dL r r_1 n) fun r_60 => nm (Go.Proofs.Ytnephcecobocdaa.SaT.dH r r_1 n) fun r_61 => ob (!r_59) (!r_59) (ob (!r_59) (!r_59) (need (Go.Proofs.Ytnephcecobocdaa.VZdh.LH r r_1 ∧ Go.Proofs.Ytnephcecobocdaa.VZcf.i6 n) (nm (Go.Proofs.Ytnephcecobocdaa.SaT.dL r r_1 n) fun r_62 => nm (Go.Proofs.Ytnephcecobocdaa.SaT.dH r r_1 n) fun r_63 => ob (!r_59) (!r_59) (ob (!r_59) (!r_59) (ob r_59 true (ob (!r_59) (!r_59) (nm (bif r_59 then true else !(fun x => r_60 == r_62 && x) (r_61 == r_63)) fun r_64 => ob (!r_64) (!r_64) (need (Go.Proofs.Ytnephcecobocdaa.VZdh.LH r r_1) (nm (Go.Proofs.Ytnephcecobocdaa.VZdb.ucL r r_1) fun r_65 => nm (Go.Proofs.Ytnephcecobocdaa.VZdb.ucH r r_1) fun r_66 => im (Go.Proofs.Ytnephcecobocdaa.VZdh.LH r_65 r_66) (ob (!r_64) (!r_64) (need (Go.Proofs.Ytnephcecobocdaa.VZdh.LH r r_1) (nm (Go.Proofs.Ytnephcecobocdaa.VZdb.ucL r r_1) fun r_67 => nm (Go.Proofs.Ytnephcecobocdaa.VZdb.ucH r r_1) fun r_68 => im (Go.Proofs.Ytnephcecobocdaa.VZdh.LH r_67 r_68) (ob (!r_64) (!r_64) (ob (!r_64) (!r_64) (ob r_64 true (ob (!r_64) (!r_64) (nm (bif r_64 then true else !(fun x => r_65 == r_67 && x) (r_66 == r_68)) fun r_69 => br r_69 (K (.bool false)) (need (Go.Proofs.Ytnephcecobocdaa.VZdh.LH r r_1) (nm (Go.Proofs.Ytnephcecobocdaa.SaT.tsL r r_1) fun r_70 => nm (Go.Proofs.Ytnephcecobocdaa.SaT.tsH r r_1) fun r_71 => need (Go.Proofs.Ytnephcecobocdaa.VZdh.LH r r_1) (nm (Go.Proofs.Ytnephcecobocdaa.SaT.tsL r r_1) fun r_72 => nm (Go.Proofs.Ytnephcecobocdaa.SaT.tsH r r_1) fun r_73 => ob ((fun x => r_70 == r_72 && x) (r_71 == r_73)) ((fun x => r_70 == r_72 && x) (r_71 == r_73)) (need (Go.Proofs.Ytnephcecobocdaa.VZdh.LH r r_1) (nm (Go.Proofs.Ytnephcecobocdaa.VZbc.ttV r r_1) fun r_74 => nm (Go.Proofs.Ytnephcecobocdaa.VZbc.ttM r r_1) fun r_75 => ob ((fun x => r_70 == r_72 && x) (r_71 == r_73)) ((fun x => r_70 == r_72 && x) (r_71 == r_73)) (need (Go.Proofs.Ytnephcecobocdaa.VZdh.LH r r_1) (nm (Go.Proofs.Ytnephcecobocdaa.VZbc.ttV r r_1) fun r_76 => nm (Go.Proofs.Ytnephcecobocdaa.VZbc.ttM r r_1) fun r => ob ((fun x => r_70 == r_72 && x) (r_71 == r_73)) ((fun x => r_70 == r_72 && x) (r_71 == r_73)) (ob ((fun x => r_70 == r_72 && x) (r_71 == r_73)) ((fun x => r_70 == r_72 && x) (r_71 == r_73)) (ob ((fun x => r_70 == r_72 && x) (r_71 == r_73)) ((fun x => r_70 == r_72 && x) (r_71 == r_73)) (ob (!(fun x => r_70 == r_72 && x) (r_71 == r_73)) true (nm (bif (fun x => r_70 == r_72 && x) (r_71 == r_73) then (fun x => r_74 == r_76 && x) (r_75 == r) else false) fun r => ob r r (ob r r (ob r r (ob (!r) true (nm (bif r then (fun x => 0 == 0 && x) (18446744073709551615 == 18446744073709551615) else false) fun r => ob r r (ob r r (ob r r (ob r r (ob r r (ob (!r) true (nm (bif r then (fun x => v == v && x) (v == v) else false) fun r => ob r r (ob (!r) true (nm (bif r then true else false) fun r => K (.bool r))))))))))))))))))))))))))))))))))))))))))))))))))))))))))))))))))))))))))))))))))))))))))))))))))))))))))))))))))))))))))))))))))))))))))))))))))))))))))))))))))) := by kernel_rfl
end Go.Proofs.Ytnephcecobocdaa.SaP
end
section
/- Layer 4: what is told of numbers without a sign, and with one, is the same on both sides. -/
namespace Go.Proofs.Ytnephcecobocdaa.SaQ
open Go Go.RowKit Go.Proofs Go.Proofs.Ytnephcecobocdaa.Xc Go.Proofs.Ytnephcecobocdaa.VZu Go.Proofs.Ytnephcecobocdaa.VZcf Go.Proofs.Ytnephcecobocdaa.VZdh Go.Proofs.Ytnephcecobocdaa.VZdj Go.Proofs.Ytnephcecobocdaa.SaT Go.Proofs.Ytnephcecobocdaa.SaP Go.Proofs.Ytnephcecobocdaa.SaM
set_option linter.unusedVariables false
set_option linter.unusedSimpArgs false
theorem nmI {q : Int} {K : Int → Prop} (h : K q) : nm q K := fun r hr => by rw [hr]; exact h
theorem nmB {q : Bool} {K : Bool → Prop} (h : K q) : nm q K := fun r hr => by rw [hr]; exact h
theorem nmF {q : Bool} {K : Bool → Prop} (e : q = false) (h : K false) : nm q K := fun r hr => by rw [hr, e]; exact h
theorem nmT {q : Bool} {K : Bool → Prop} (e : q = true) (h : K true) : nm q K := fun r hr => by rw [hr, e]; exact h
theorem brF {A B : Prop} (h : B) : br false A B := h
theorem need_mk {p A : Prop} (h : p) (k : A) : need p A := ⟨h, k⟩
theorem im_mk {p A : Prop} (k : p → A) : im p A := k
theorem oUns (p0 p1 q0 q1 n v : Int) (h1 : u6 p0) (h2 : u6 p1) (h3 : u6 q0) (h4 : u6 q1) (hn : i6 n) (hv : u6 v) : nUns p0 p1 q0 q1 n v (· = .bool true) := by
  rw [nUns_eq]
  refine need_mk ⟨⟨h1, h2⟩, h3, h4⟩ ?_
  refine nm_intro fun a _ => nm_intro fun b _ => nm_intro fun c _ => nm_intro fun d _ => im_mk fun L => ?_
  obtain ⟨L1, L2⟩ := L
  have le1 := L1.le
  have le2 := L2.le
  repeat (first
    | with_reducible refine ob_self ?_
    | with_reducible refine ob_true ?_
    | with_reducible refine nmI ?_
    | with_reducible refine need_mk ⟨L1, L2⟩ ?_
    | with_reducible refine need_mk ⟨L1, hn⟩ ?_
    | with_reducible refine need_mk L1 ?_
    | with_reducible refine need_mk le1 ?_
    | (with_reducible refine im_mk fun _ => ?_)
    | with_reducible refine brF ?_
    | (with_reducible refine nmF ?_ ?_; focus (simp; done))
    | with_reducible refine nmB ?_)

  simp
theorem oSig (p0 p1 q0 q1 n v : Int) (h1 : i6 p0) (h2 : i6 p1) (h3 : i6 q0) (h4 : i6 q1) (hn : i6 n) (hv : u6 v) : nSig p0 p1 q0 q1 n v (· = .bool true) := by
  rw [nSig_eq]
  refine need_mk ⟨⟨h1, h2⟩, h3, h4⟩ ?_
  refine nm_intro fun a _ => nm_intro fun b _ => nm_intro fun c _ => nm_intro fun d _ => im_mk fun L => ?_
  obtain ⟨L1, L2⟩ := L
  have le1 := L1.le
  have le2 := L2.le
  repeat (first
    | with_reducible refine ob_self ?_
    | with_reducible refine ob_true ?_
    | with_reducible refine nmI ?_
    | with_reducible refine need_mk ⟨L1, L2⟩ ?_
    | with_reducible refine need_mk ⟨L1, hn⟩ ?_
    | with_reducible refine need_mk L1 ?_
    | with_reducible refine need_mk le1 ?_
    | (with_reducible refine im_mk fun _ => ?_)
    | with_reducible refine brF ?_
    | (with_reducible refine nmF ?_ ?_; focus (simp; done))
    | with_reducible refine nmB ?_)
  simp
end Go.Proofs.Ytnephcecobocdaa.SaQ
end
section
/- Layer 4: whatever numbers are of some: what is made of them is of what is told. -/
namespace Go.Proofs.Ytnephcecobocdaa.SaR
open Go Go.RowKit Go.Proofs Go.Proofs.Ytnephcecobocdaa.Xc Go.Proofs.Ytnephcecobocdaa.VZu Go.Proofs.Ytnephcecobocdaa.VZv Go.Proofs.Ytnephcecobocdaa.VZcf Go.Proofs.Ytnephcecobocdaa.VZdb Go.Proofs.Ytnephcecobocdaa.VZdc Go.Proofs.Ytnephcecobocdaa.VZdg Go.Proofs.Ytnephcecobocdaa.VZdh Go.Proofs.Ytnephcecobocdaa.VZdj Go.Proofs.Ytnephcecobocdaa.VZbc Go.Proofs.Ytnephcecobocdaa.SaT Go.Proofs.Ytnephcecobocdaa.SaP Go.Proofs.Ytnephcecobocdaa.SaM Go.Proofs.Ytnephcecobocdaa.SaQ
set_option linter.unusedVariables false
set_option linter.unusedSimpArgs false
theorem t_u {a b x : Int} (h : LI a b) (ux : u6 x) (hx : inU a b (IntKind.wrap .i64 x)) : tuL a b ≤ x ∧ x ≤ tuH a b := by
  have h1 := h.pl; have h2 := h.ph
  unfold inU tuL tuH at *; simp only [isw', uW] at *; unfold i6 u6 at *; split <;> omega
theorem s_ts {a b x : Int} (h : LH a b) (hx : inU a b x) : tsL a b ≤ IntKind.wrap .i64 x ∧ IntKind.wrap .i64 x ≤ tsH a b := by
  have h1 := h.pl; have h2 := h.ph
  unfold inU tsL tsH at *; simp only [isw'] at *; unfold u6 at *; split <;> omega
theorem al_mk {α : Type} {K : α → Prop} (h : ∀ x, K x) : al K := h
theorem oSgs (p0 p1 q0 q1 n i k : Int) (h1 : i6 p0) (h2 : i6 p1) (h3 : i6 q0) (h4 : i6 q1) (hn : i6 n) (hi : u6 i) (hk : u6 k) : nSgs p0 p1 q0 q1 n i k (· = .bool true) := by
  rw [nSgs_eq]
  refine need_mk ⟨⟨h1, h2⟩, h3, h4⟩ ?_
  refine nm_intro fun a _ => nm_intro fun b _ => nm_intro fun c _ => nm_intro fun d _ => im_mk fun L => ?_
  obtain ⟨L1, L2⟩ := L
  refine need_mk ⟨L1, hi⟩ (al_mk fun x => im_mk fun X => need_mk ⟨L2, hk⟩ (al_mk fun y => im_mk fun Y => ?_))
  obtain ⟨ux, ix⟩ := X
  obtain ⟨uy, iy⟩ := Y
  have F1 := t_add L1 L2 ux uy ix iy
  have F2 := t_sub L1 L2 ux uy ix iy
  have F3 := t_shr (n := n) L1 ix
  have F4 := t_u L1 ux ix
  have H0 : decide (0 ≤ IntKind.wrap .u64 (Go.bits .and .i64 n 63)) = true := by rw [e63 hn]; exact decide_eq_true (by omega)
  rw [← m63 hn (k := .i64) rfl] at F3
  unfold inU at F1 F2 F3 ix iy
  repeat (first
    | with_reducible refine ob_self ?_
    | with_reducible refine ob_true ?_
    | with_reducible refine nmI ?_
    | with_reducible refine need_mk ⟨L1, L2⟩ ?_
    | with_reducible refine need_mk ⟨L1, hn⟩ ?_
    | with_reducible refine need_mk L1 ?_
    | (with_reducible refine im_mk fun _ => ?_)
    | with_reducible refine ob_mk (fun _ => H0) ?_
    | with_reducible refine nmT (decide_eq_true ix) ?_
    | with_reducible refine nmT (decide_eq_true F1) ?_
    | with_reducible refine nmT (decide_eq_true F2) ?_
    | with_reducible refine nmT (decide_eq_true F3) ?_
    | with_reducible refine nmT (decide_eq_true F4) ?_
    | (with_reducible refine nmT ?_ ?_; focus (simp; done)))
  rfl
theorem oSou (p0 p1 q0 q1 n i k : Int) (h1 : u6 p0) (h2 : u6 p1) (h3 : u6 q0) (h4 : u6 q1) (hn : i6 n) (hi : u6 i) (hk : u6 k) : nSou p0 p1 q0 q1 n i k (· = .bool true) := by
  rw [nSou_eq]
  refine need_mk ⟨⟨h1, h2⟩, h3, h4⟩ ?_
  refine nm_intro fun a _ => nm_intro fun b _ => nm_intro fun c _ => nm_intro fun d _ => im_mk fun L => ?_
  obtain ⟨L1, L2⟩ := L
  refine need_mk ⟨L1, hi⟩ (al_mk fun x => im_mk fun X => need_mk ⟨L2, hk⟩ (al_mk fun y => im_mk fun Y => ?_))
  obtain ⟨ux, ix⟩ := X
  obtain ⟨uy, iy⟩ := Y
  have F1 := s_add L1 L2 ix iy
  have F2 := s_sub L1 L2 ix iy
  have F3 := s_mul L1 L2 ix iy
  have F6 := s_and L1 L2 ix iy
  have F7 := s_or L1 L2 ix iy
  have F8 := s_lsh (n := n) L1 ix
  have F9 : inU (dL a b n) (dH a b n) (x / 2 ^ sh n) := s_rsh (n := n) ix
  have F10 := s_cut ix
  have F11 := s_ts L1 ix
  obtain ⟨F12, F13⟩ := tt_in L1 ux ix
  have F12 : (Go.bits .andNot .u64 x (ttM a b) == ttV a b) = true := by rw [F12]; simp
  have F13 : (Go.bits .and .u64 (ttV a b) (ttM a b) == 0) = true := by rw [F13]; rfl
  have H0 : decide (0 ≤ IntKind.wrap .u64 (Go.bits .and .i64 n 63)) = true := by rw [e63 hn]; exact decide_eq_true (by omega)
  rw [← m63 hn (k := .u64) rfl] at F8 F9
  rw [← tmod_u ux] at F10
  have rest : ∀ Q : Prop, Q → Q := fun _ h => h
  refine br_cases (fun q => ?_) (fun q => ?_)
  · have hz : y ≠ 0 := by simpa using q
    have F4 := s_div L1 L2 ix iy hz
    have F5 := s_mod L1 L2 ix iy hz
    rw [← tdiv_u ux uy] at F4
    rw [← tmod_u ux] at F5
    unfold inU at *
    repeat (first
      | with_reducible refine ob_self ?_
      | with_reducible refine ob_true ?_
      | with_reducible refine ob_mk (fun _ => q) ?_
      | with_reducible refine nmI ?_
      | with_reducible refine need_mk ⟨L1, L2⟩ ?_
      | with_reducible refine need_mk ⟨L1, hn⟩ ?_
      | with_reducible refine need_mk L1 ?_
      | (with_reducible refine im_mk fun _ => ?_)
      | with_reducible refine ob_mk (fun _ => H0) ?_
      | with_reducible refine brF ?_
      | with_reducible refine nmT (decide_eq_true ix) ?_
      | with_reducible refine nmT (decide_eq_true F1) ?_
      | with_reducible refine nmT (decide_eq_true F2) ?_
      | with_reducible refine nmT (decide_eq_true F3) ?_
      | with_reducible refine nmT (decide_eq_true F4) ?_
      | with_reducible refine nmT (decide_eq_true F5) ?_
      | with_reducible refine nmT (decide_eq_true F6) ?_
      | with_reducible refine nmT (decide_eq_true F7) ?_
      | with_reducible refine nmT (decide_eq_true F8) ?_
      | with_reducible refine nmT (decide_eq_true F9) ?_
      | with_reducible refine nmT (decide_eq_true F10) ?_
      | with_reducible refine nmT (decide_eq_true F11) ?_
      | (with_reducible refine nmF ?_ ?_; focus (simp; done))
      | (with_reducible refine nmT ?_ ?_; focus (simp [F12, F13]; done)))
    rfl
  · have hz : y = 0 := by simpa using q
    subst hz
    have F4 := s_div0 L1 L2 iy
    have F5 := s_mod0 L1 L2 ix iy
    unfold inU at *
    repeat (first
      | with_reducible refine ob_self ?_
      | with_reducible refine ob_true ?_
      | with_reducible refine nmI ?_
      | with_reducible refine need_mk ⟨L1, L2⟩ ?_
      | with_reducible refine need_mk ⟨L1, hn⟩ ?_
      | with_reducible refine need_mk L1 ?_
      | (with_reducible refine im_mk fun _ => ?_)
      | with_reducible refine ob_mk (fun _ => H0) ?_
      | with_reducible refine brF ?_
      | with_reducible refine nmT (decide_eq_true ix) ?_
      | with_reducible refine nmT (decide_eq_true F1) ?_
      | with_reducible refine nmT (decide_eq_true F2) ?_
      | with_reducible refine nmT (decide_eq_true F3) ?_
      | with_reducible refine nmT (decide_eq_true F4) ?_
      | with_reducible refine nmT (decide_eq_true F5) ?_
      | with_reducible refine nmT (decide_eq_true F6) ?_
      | with_reducible refine nmT (decide_eq_true F7) ?_
      | with_reducible refine nmT (decide_eq_true F8) ?_
      | with_reducible refine nmT (decide_eq_true F9) ?_
      | with_reducible refine nmT (decide_eq_true F10) ?_
      | with_reducible refine nmT (decide_eq_true F11) ?_
      | (with_reducible refine nmF ?_ ?_; focus (simp; done))
      | (with_reducible refine nmT ?_ ?_; focus (simp [F12, F13]; done)))
    rfl
end Go.Proofs.Ytnephcecobocdaa.SaR
end
section
/- Layer 4: of numbers alone all is told exactly; what known bits tell. -/
namespace Go.Proofs.Ytnephcecobocdaa.SaS
open Go Go.RowKit Go.Proofs Go.Proofs.Ytnephcecobocdaa.Xc Go.Proofs.Ytnephcecobocdaa.VZu Go.Proofs.Ytnephcecobocdaa.VZv Go.Proofs.Ytnephcecobocdaa.VZcf Go.Proofs.Ytnephcecobocdaa.VZdb Go.Proofs.Ytnephcecobocdaa.VZdc Go.Proofs.Ytnephcecobocdaa.VZdg Go.Proofs.Ytnephcecobocdaa.VZdh Go.Proofs.Ytnephcecobocdaa.VZdj Go.Proofs.Ytnephcecobocdaa.VZbc Go.Proofs.Ytnephcecobocdaa.SaT Go.Proofs.Ytnephcecobocdaa.SaP Go.Proofs.Ytnephcecobocdaa.SaM Go.Proofs.Ytnephcecobocdaa.SaQ Go.Proofs.Ytnephcecobocdaa.SaR Go.Proofs.Ytnephcecobocdaa.Bv
set_option linter.unusedVariables false
set_option linter.unusedSimpArgs false
theorem cF {p : Prop} [Decidable p] {l h w w' : Int} (e : ¬ p → l = w ∧ h = w') : (bif !decide p then !(l == w && h == w') else false) = false := by
  by_cases hp : p
  · simp [hp]
  · obtain ⟨e1, e2⟩ := e hp; simp [hp, e1, e2]
theorem cT {p : Prop} [Decidable p] {l h w w' : Int} (e : p → l = w ∧ h = w') : (bif decide p then !(l == w && h == w') else false) = false := by
  by_cases hp : p
  · obtain ⟨e1, e2⟩ := e hp; simp [hp, e1, e2]
  · simp [hp]
theorem and_l {a b : Bool} (h : (a && b) = true) : a = true := by cases a <;> simp_all
theorem lone {x : Int} (h : u6 x) : LH x x := ⟨h, h, Int.le_refl _⟩
section
variable {x y n : Int}
theorem x_add (hx : u6 x) (hy : u6 y) (h : ¬ IntKind.wrap .u64 (x + y) < x) : uaL x x y y = IntKind.wrap .u64 (x + y) ∧ uaH x x y y = IntKind.wrap .u64 (x + y) := by
  rw [uW] at *; unfold uaL uaH; unfold u6 at *; split <;> omega
theorem x_sub (hx : u6 x) (hy : u6 y) (h : x ≥ y) : usL x x y y = IntKind.wrap .u64 (x - y) ∧ usH x x y y = IntKind.wrap .u64 (x - y) := by
  rw [uW] at *; unfold usL usH; unfold u6 at *; split <;> omega
theorem x_and : unL x x y y = Go.bits .and .u64 x y ∧ unH x x y y = Go.bits .and .u64 x y := by unfold unL unH; simp
theorem x_or : uoL' x x y y = Go.bits .or .u64 x y ∧ uoH' x x y y = Go.bits .or .u64 x y := by unfold uoL' uoH'; simp
theorem x_shr (hn : i6 n) : dL x x n = x / 2 ^ min (Int.toNat (IntKind.wrap .u64 (Go.bits .and .i64 n 63))) (IntKind.bits .u64) ∧ dH x x n = x / 2 ^ min (Int.toNat (IntKind.wrap .u64 (Go.bits .and .i64 n 63))) (IntKind.bits .u64) := by
  rw [m63 hn rfl]; exact ⟨rfl, rfl⟩
theorem x_cut (hx : u6 x) : ucL x x = Int.tmod x 4294967296 ∧ ucH x x = Int.tmod x 4294967296 := by
  rw [tmod_u hx]; unfold ucL ucH; simp
theorem x_ts : tsL x x = IntKind.wrap .i64 x ∧ tsH x x = IntKind.wrap .i64 x := by
  unfold tsL tsH; constructor <;> (rw [if_neg (by omega)])
theorem x_tu (hx : u6 x) : tuL (IntKind.wrap .i64 x) (IntKind.wrap .i64 x) = x ∧ tuH (IntKind.wrap .i64 x) (IntKind.wrap .i64 x) = x := by
  unfold tuL tuH; rw [isw', uW]; unfold u6 at hx; constructor <;> (rw [if_neg (by omega)]; omega)
theorem x_tt (hx : u6 x) : ttV x x = x ∧ ttM x x = 0 := by
  have k : VZy.KP x x 0 := VZy.KP.mk (by omega) rfl (fun i hi => by omega)
  unfold ttV ttM; rw [kpf_eq k]; simp
theorem x_div (hx : u6 x) (hy : u6 y) (h : y ≠ 0) : udL x x y y = IntKind.wrap .u64 (Int.tdiv x y) ∧ udH x x y y = IntKind.wrap .u64 (Int.tdiv x y) := by
  rw [tdiv_u hx hy]; unfold udL udH; simp [h]
theorem x_mod (hx : u6 x) (hy : u6 y) (h : y ≠ 0) : uoL x x y y = Int.tmod x y ∧ uoH x x y y = Int.tmod x y := by
  rw [tmod_u hx]; unfold uoL uoH
  constructor
  · rw [if_pos ⟨rfl, h⟩]
    by_cases hl : x < y
    · rw [if_pos hl, Int.emod_eq_of_lt hx.1 hl]
    · rw [if_neg hl, if_pos rfl]
  · rw [if_pos ⟨rfl, h⟩]
    by_cases hl : x < y
    · rw [if_pos hl, Int.emod_eq_of_lt hx.1 hl]
    · rw [if_neg hl, if_pos rfl]
end
theorem oExa (x y n : Int) (hx : u6 x) (hy : u6 y) (hn : i6 n) : nExa x y n (· = .bool true) := by
  rw [nExa_eq]
  have L1 := lone hx
  have L2 := lone hy
  have LS : LI (IntKind.wrap .i64 x) (IntKind.wrap .i64 x) := by
    have : i6 (IntKind.wrap .i64 x) := by rw [isw']; unfold i6; omega
    exact ⟨this, this, Int.le_refl _⟩
  have H0 : decide (0 ≤ IntKind.wrap .u64 (Go.bits .and .i64 n 63)) = true := by rw [e63 hn]; exact decide_eq_true (by omega)
  have a3 := x_and (x := x) (y := y)
  have a4 := x_or (x := x) (y := y)
  have a5 := x_shr (x := x) hn
  have a6 := x_cut hx
  have a7 := x_ts (x := x)
  have a8 := x_tu hx
  have a9 := x_tt hx
  have a10 := fun h => x_div hx hy h
  have a11 := fun h => x_mod hx hy h
  repeat (first
    | with_reducible refine ob_self ?_
    | with_reducible refine ob_true ?_
    | with_reducible refine nmI ?_
    | with_reducible refine need_mk ⟨L1, L2⟩ ?_
    | with_reducible refine need_mk ⟨L1, hn⟩ ?_
    | with_reducible refine need_mk L1 ?_
    | with_reducible refine need_mk LS ?_
    | (with_reducible refine im_mk fun _ => ?_)
    | with_reducible refine ob_mk (fun _ => H0) ?_
    | with_reducible refine ob_mk and_l ?_
    | with_reducible refine brF ?_
    | (with_reducible refine nmF ?_ ?_; focus (exact cF (x_add hx hy)))
    | (with_reducible refine nmF ?_ ?_; focus (exact cT (x_sub hx hy)))
    | (with_reducible refine nmF ?_ ?_; focus (simp [a3.1, a3.2, a4.1, a4.2, a5.1, a5.2, a6.1, a6.2, a7.1, a7.2, a8.1, a8.2, a9.1, a9.2]; done))
    | (with_reducible refine nmF ?_ ?_; focus (by_cases hz : y = 0 <;> simp [hz, a10, a11]; done))
    | with_reducible refine nmB ?_)
  rfl
theorem dj_of {v m : Int} (hv : u6 v) (hm : u6 m) : djn (Go.bits .andNot .u64 v m) m := by
  obtain ⟨V, rfl⟩ := exu hv
  obtain ⟨M, rfl⟩ := exu hm
  refine ⟨V &&& ~~~ M, M, ?_, rfl, ?_⟩
  · rw [b_andNot, ofInt_U, ofInt_U]
  · rw [BitVec.and_assoc, BitVec.and_comm (~~~ M)]; simp
theorem oBit (v m : Int) (hv : u6 v) (hm : u6 m) : nBit v m (· = .bool true) := by
  rw [nBit_eq]
  have D := dj_of hv hm
  repeat (first
    | with_reducible refine ob_self ?_
    | with_reducible refine ob_true ?_
    | with_reducible refine nmI ?_
    | with_reducible refine need_mk D ?_
    | (with_reducible refine nmT ?_ ?_; focus (simp; done)))
  rfl
end Go.Proofs.Ytnephcecobocdaa.SaS
end
section
/- Layer 4: whatever known bits tell is so. -/
namespace Go.Proofs.Ytnephcecobocdaa.SaU
open Go Go.RowKit Go.Proofs Go.Proofs.Ytnephcecobocdaa.Xc Go.Proofs.Ytnephcecobocdaa.VZu Go.Proofs.Ytnephcecobocdaa.VZv Go.Proofs.Ytnephcecobocdaa.SaT Go.Proofs.Ytnephcecobocdaa.SaP Go.Proofs.Ytnephcecobocdaa.SaM Go.Proofs.Ytnephcecobocdaa.SaQ Go.Proofs.Ytnephcecobocdaa.SaR Go.Proofs.Ytnephcecobocdaa.SaS Go.Proofs.Ytnephcecobocdaa.Bv
set_option linter.unusedVariables false
set_option linter.unusedSimpArgs false
theorem top_and (m : W) : m &&& 9223372036854775808 = 0 ↔ m.toNat < 9223372036854775808 := by
  have h1 : m.msb = decide (9223372036854775808 ≤ m.toNat) := by rw [BitVec.msb_eq_decide]
  have h2 : m.msb = m.getLsbD 63 := by rw [BitVec.msb_eq_getLsbD_last]
  have h3 : (9223372036854775808 : W) = (1 : W) <<< 63 := by decide
  constructor
  · intro h
    have : (m &&& 9223372036854775808).getLsbD 63 = false := by rw [h]; decide
    rw [BitVec.getLsbD_and, show (9223372036854775808 : W).getLsbD 63 = true by decide, Bool.and_true, ← h2, h1] at this
    simpa using this
  · intro h
    apply BitVec.eq_of_getLsbD_eq
    intro i hi
    rw [BitVec.getLsbD_and, h3, getLsbD_one_shl 63 i hi]
    by_cases e : i = 63
    · subst e; rw [← h2, h1, decide_eq_false (by omega)]; simp
    · simp [e]
def top : W := 9223372036854775808
theorem top_in {m : W} (h0 : ¬ m.toNat < 9223372036854775808) : top &&& m = top := by
  apply BitVec.eq_of_getLsbD_eq
  intro i hi
  rw [BitVec.getLsbD_and, show top = (1 : W) <<< 63 by decide, getLsbD_one_shl 63 i hi]
  by_cases e : i = 63
  · subst e
    have h1 : m.msb = decide (9223372036854775808 ≤ m.toNat) := by rw [BitVec.msb_eq_decide]
    have h2 : m.msb = m.getLsbD 63 := by rw [BitVec.msb_eq_getLsbD_last]
    rw [← h2, h1, decide_eq_true (show 9223372036854775808 ≤ m.toNat by omega)]; rfl
  · simp [e]
theorem nat_le {P Q : W} (h : P &&& Q = P) : P.toNat ≤ Q.toNat := by
  rw [← h, BitVec.toNat_and]; exact Nat.and_le_right
/-- Y is of the bits M. -/
def isub (Y M : W) : Prop := Y &&& M = Y
theorem dj_sub {A M Y : W} (h : A &&& M = 0) (hy : isub Y M) : A &&& Y = 0 := by
  unfold isub at hy
  rw [← hy, BitVec.and_comm Y M, ← BitVec.and_assoc, h]; simp
theorem sum_nat {A Y : W} (h : A &&& Y = 0) : (A + Y).toNat = A.toNat + Y.toNat := BitVec.toNat_add_of_and_eq_zero h
theorem sum_out {A M Y : W} (h : A &&& M = 0) (hy : isub Y M) : (A + Y) &&& ~~~ M = A := by
  rw [BitVec.add_eq_or_of_and_eq_zero A Y (dj_sub h hy)]
  unfold isub at hy
  apply BitVec.eq_of_getLsbD_eq
  intro i hi
  have e1 : (A.getLsbD i && M.getLsbD i) = false := by rw [← BitVec.getLsbD_and, h]; simp
  have e2 : (Y.getLsbD i && M.getLsbD i) = Y.getLsbD i := by rw [← BitVec.getLsbD_and, hy]
  rw [BitVec.getLsbD_and, BitVec.getLsbD_or, BitVec.getLsbD_not, decide_eq_true hi]
  have tt : ∀ a b c : Bool, (a && c) = false → (b && c) = b → ((a || b) && (true && !c)) = a := by decide
  exact tt _ _ _ e1 e2
theorem low_sub (M : W) (h : ¬ M.toNat < 9223372036854775808) : isub (M - top) M ∧ (M - top).toNat + 9223372036854775808 = M.toNat := by
  have q0 : (M &&& ~~~ top) &&& top = 0 := by rw [BitVec.and_assoc, BitVec.and_comm (~~~ top)]; simp
  have q1 : (M &&& ~~~ top) + top = M := by
    rw [BitVec.add_eq_or_of_and_eq_zero _ _ q0]
    apply BitVec.eq_of_getLsbD_eq
    intro i hi
    have hb : top.getLsbD i = (top.getLsbD i && M.getLsbD i) := by rw [← BitVec.getLsbD_and, top_in h]
    rw [BitVec.getLsbD_or, BitVec.getLsbD_and, BitVec.getLsbD_not, decide_eq_true hi]
    have tt : ∀ x y : Bool, y = (y && x) → ((x && (true && !y)) || y) = x := by decide
    exact tt _ _ hb
  have e : M - top = M &&& ~~~ top := by
    conv => lhs; rw [← q1]
    exact BitVec.add_sub_cancel _ _
  have s := sum_nat q0
  rw [q1] at s
  rw [e]
  refine ⟨?_, ?_⟩
  · unfold isub; rw [BitVec.and_assoc, BitVec.and_comm (~~~ top), ← BitVec.and_assoc, BitVec.and_self]
  · have : top.toNat = 9223372036854775808 := by decide
    omega
theorem U_wrap (z : Int) : IntKind.wrap .u64 (IntKind.wrap .i64 (IntKind.wrap .u64 z)) = IntKind.wrap .u64 z := by
  rw [uW, isw', uW]; omega
theorem w_U (A : W) : IntKind.wrap .u64 (U A) = U A := by
  rw [uW]; exact Int.emod_eq_of_lt (U_nonneg _) (U_lt _)
theorem w_add (A B : W) : IntKind.wrap .u64 (U A + U B) = U (A + B) := by
  rw [uW]; unfold U; rw [BitVec.toNat_add]; omega
/-- The least and the greatest with a sign, as words. -/
def wL (A M : W) : W := if M.toNat < 9223372036854775808 then A else A + top
def wH (A M : W) : W := if M.toNat < 9223372036854775808 then A + M else A + (M - top)
theorem U_lt_iff (M : W) : U M < 9223372036854775808 ↔ M.toNat < 9223372036854775808 := by unfold U; omega
theorem ftL_w (A M : W) : ftL (U A) (U M) = IntKind.wrap .i64 (IntKind.wrap .u64 (U (wL A M))) := by
  unfold ftL wL
  by_cases h : M.toNat < 9223372036854775808
  · rw [if_pos ((U_lt_iff M).2 h), if_pos h, w_U]
  · rw [if_neg (fun k => h ((U_lt_iff M).1 k)), if_neg h, w_U, show (9223372036854775808 : Int) = U top from rfl, w_add]
theorem ftS_w (A M : W) : ftS (U A) (U M) = IntKind.wrap .i64 (IntKind.wrap .u64 (U (wH A M))) := by
  unfold ftS wH
  by_cases h : M.toNat < 9223372036854775808
  · rw [if_pos ((U_lt_iff M).2 h), if_pos h, w_U, w_add]
  · rw [if_neg (fun k => h ((U_lt_iff M).1 k)), if_neg h, w_U]
    have e : IntKind.wrap .u64 (U M - 9223372036854775808) = U (M - top) := by
      have := (low_sub M h).2
      rw [uW]; unfold U; omega
    rw [e, w_add]
theorem wL_sub (A M : W) : ∃ Y, isub Y M ∧ wL A M = A + Y := by
  unfold wL
  by_cases k : M.toNat < 9223372036854775808
  · exact ⟨0, by unfold isub; simp, by rw [if_pos k]; simp⟩
  · exact ⟨top, top_in k, by rw [if_neg k]⟩
theorem wH_sub (A M : W) : ∃ Y, isub Y M ∧ wH A M = A + Y := by
  unfold wH
  by_cases k : M.toNat < 9223372036854775808
  · exact ⟨M, by unfold isub; simp, by rw [if_pos k]⟩
  · exact ⟨M - top, (low_sub M k).1, by rw [if_neg k]⟩
section
variable {A M : W} (h : A &&& M = 0)
include h
theorem out_u {Y : W} (hy : isub Y M) : Go.bits .andNot .u64 (U (A + Y)) (U M) = U A := by
  rw [b_andNot, ofInt_U, ofInt_U, sum_out h hy]
theorem t_low : Go.bits .andNot .u64 (IntKind.wrap .u64 (ftL (U A) (U M))) (U M) = U A := by
  obtain ⟨Y, hy, e⟩ := wL_sub A M
  rw [ftL_w, U_wrap, w_U, e]; exact out_u h hy
theorem t_high : Go.bits .andNot .u64 (IntKind.wrap .u64 (ftS (U A) (U M))) (U M) = U A := by
  obtain ⟨Y, hy, e⟩ := wH_sub A M
  rw [ftS_w, U_wrap, w_U, e]; exact out_u h hy
theorem t_all : Go.bits .andNot .u64 (ftH (U A) (U M)) (U M) = U A := by
  unfold ftH; rw [w_add]; exact out_u h (by unfold isub; simp)
theorem t_self : Go.bits .andNot .u64 (U A) (U M) = U A := by
  have := out_u h (Y := 0) (by unfold isub; simp)
  simpa using this
theorem t_in {Y : W} (hy : isub Y M) : U A ≤ U (A + Y) ∧ U (A + Y) ≤ ftH (U A) (U M) := by
  have e1 := sum_nat (dj_sub h hy)
  have e2 := sum_nat h
  have e3 := nat_le hy
  unfold ftH; rw [w_add]; unfold U; omega
theorem t_sin {Y : W} (hy : isub Y M) : ftL (U A) (U M) ≤ IntKind.wrap .i64 (U (A + Y)) ∧ IntKind.wrap .i64 (U (A + Y)) ≤ ftS (U A) (U M) := by
  have e1 := sum_nat (dj_sub h hy)
  have e2 := sum_nat h
  have e3 := nat_le hy
  have lt := (A + M).isLt
  rw [ftL_w, ftS_w, w_U, w_U]
  simp only [isw']
  unfold wL wH
  by_cases k : M.toNat < 9223372036854775808
  · rw [if_pos k, if_pos k]
    have h5 : A.toNat < 2 ^ 63 → (A + M).toNat < 2 ^ 63 := fun hv => by
      rw [BitVec.add_eq_or_of_and_eq_zero A M h, BitVec.toNat_or]; exact Nat.or_lt_two_pow hv k
    unfold U
    by_cases hv : A.toNat < 2 ^ 63
    · have := h5 hv; omega
    · omega
  · rw [if_neg k, if_neg k]
    obtain ⟨l1, l2⟩ := low_sub M k
    have e4 := sum_nat (dj_sub h l1)
    have e5 := sum_nat (dj_sub h (top_in k))
    have tn : top.toNat = 9223372036854775808 := by decide
    have e6 : Y.toNat < 2 ^ 63 → Y.toNat + 9223372036854775808 ≤ M.toNat := fun hy6 => by
      have z := (top_and Y).2 hy6
      have z : Y &&& top = 0 := z
      have s := sum_nat z
      have : isub (Y + top) M := by
        unfold isub
        rw [BitVec.add_eq_or_of_and_eq_zero _ _ z]
        unfold isub at hy
        apply BitVec.eq_of_getLsbD_eq
        intro i hi
        have hb : (top.getLsbD i && M.getLsbD i) = top.getLsbD i := by rw [← BitVec.getLsbD_and, top_in k]
        have hc : (Y.getLsbD i && M.getLsbD i) = Y.getLsbD i := by rw [← BitVec.getLsbD_and, hy]
        rw [BitVec.getLsbD_and, BitVec.getLsbD_or]
        have tt : ∀ a b c : Bool, (b && c) = b → (a && c) = a → ((a || b) && c) = (a || b) := by decide
        exact tt _ _ _ hb hc
      have := nat_le this
      omega
    have h7 : A.toNat < 2 ^ 63 := by omega
    have h8 : Y.toNat < 2 ^ 63 → (A + Y).toNat < 2 ^ 63 := fun hv => by
      rw [BitVec.add_eq_or_of_and_eq_zero A Y (dj_sub h hy), BitVec.toNat_or]; exact Nat.or_lt_two_pow h7 hv
    have h9 : (A + (M - top)).toNat < 2 ^ 63 := by
      rw [BitVec.add_eq_or_of_and_eq_zero _ _ (dj_sub h l1), BitVec.toNat_or]; exact Nat.or_lt_two_pow h7 (by have := M.isLt; omega)
    unfold U
    by_cases hv : Y.toNat < 2 ^ 63
    · have := h8 hv; have := e6 hv; omega
    · omega
end
theorem oTak (v m x : Int) (hv : u6 v) (hm : u6 m) (hx : u6 x) : nTak v m x (· = .bool true) := by
  rw [nTak_eq]
  have D := dj_of hv hm
  obtain ⟨A, M, e1, e2, h⟩ := D
  obtain ⟨X, rfl⟩ := exu hx
  subst e2
  have D : djn (Go.bits .andNot .u64 v (U M)) (U M) := ⟨A, M, e1, rfl, h⟩
  rw [e1] at D ⊢
  have hy : isub (X &&& M) M := by unfold isub; rw [BitVec.and_assoc, BitVec.and_self]
  have ex : Go.bits .or .u64 (U A) (Go.bits .and .u64 (U X) (U M)) = U (A + (X &&& M)) := by
    rw [b_and, ofInt_U, ofInt_U, b_or, ofInt_U, ofInt_U, BitVec.add_eq_or_of_and_eq_zero A (X &&& M) (dj_sub h hy)]
  rw [ex]
  have T0 := t_self h
  have T1 := t_all h
  have T2 := t_low h
  have T3 := t_high h
  have F1 := t_in h hy
  have F2 := t_sin h hy
  repeat (first
    | with_reducible refine ob_self ?_
    | with_reducible refine ob_true ?_
    | with_reducible refine nmI ?_
    | with_reducible refine need_mk D ?_
    | (with_reducible refine br_no ?_ ?_; focus (simp only [T0, T1, T2, T3, bne_self_eq_false]; done))
    | with_reducible refine nmT (decide_eq_true F1) ?_
    | with_reducible refine nmT (decide_eq_true F2) ?_
    | (with_reducible refine nmT ?_ ?_; focus (simp; done)))
  rfl
end Go.Proofs.Ytnephcecobocdaa.SaU
end
