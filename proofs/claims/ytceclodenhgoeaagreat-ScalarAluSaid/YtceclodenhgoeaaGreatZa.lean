/- Zs, Zt, Zu, Zk, Zv, Zw, Zx, Zr, Zy, Zo, Zp, Zq, Zqa, Zqb, Zqc, in one text. -/
import Derived.Test.YtceclodenhgoeaaGreatXa
import Derived.Test.YtceclodenhgoeaaGreatBa
section
/- Layer 5, against the reference: byte orders, run. -/
namespace Go.Proofs.YtceclodenhgoeaaGreat.Zs
open Go Go.RowKit Go.Proofs Go.Proofs.YtceclodenhgoeaaGreat.Xc
set_option maxRecDepth 100000
set_option linter.unusedVariables false
noncomputable abbrev EEz : Eqs := [(30, eqS Tryz.prog 30)]
theorem eez : EqOk Tryz.prog EEz := eq_cons (by kernel_rfl) eq_nil
abbrev Sc (tv tm ul uh sl sh : Int) : Value := .agg #[.int .u64 tv, .int .u64 tm, .int .u64 ul, .int .u64 uh, .int .i64 sl, .int .i64 sh]
def nIs1 (a b c d e f : Int) (K : Value → Prop) : Prop := run Tryz.prog [] EEz true 90 13 [Sc a b c d e f] K
theorem nIs1_eq (a b c d e f : Int) (K : Value → Prop) : nIs1 a b c d e f K = (br (c == d) (K (.tuple (#[.int .u64 c, .bool true]))) (br (b == 0) (K (.tuple (#[.int .u64 a, .bool true]))) (br (e == f) (K (.tuple (#[.int .u64 (IntKind.wrap .u64 e), .bool true]))) (K (.tuple (#[.int .u64 0, .bool false])))))) := by kernel_rfl
def nIs2 (a b c d e f : Int) (K : Value → Prop) : Prop := run Tryz.prog [] EEz true 90 14 [Sc a b c d e f] K
theorem nIs2_eq (a b c d e f : Int) (K : Value → Prop) : nIs2 a b c d e f K = (br (c == d) (K (.tuple (#[.int .u64 c, .bool true]))) (br (b == 0) (K (.tuple (#[.int .u64 a, .bool true]))) (br (e == f) (K (.tuple (#[.int .u64 (IntKind.wrap .u64 e), .bool true]))) (K (.tuple (#[.int .u64 0, .bool false])))))) := by kernel_rfl
def nUp1 (n : Int) (K : Value → Prop) : Prop := run Tryz.prog [] EEz true 90 21 [.int .i64 n] K
theorem nUp1_eq (n : Int) (K : Value → Prop) : nUp1 n K = (br (decide (n ≥ 8)) (K (.agg (#[.int .u64 0, .int .u64 18446744073709551615, .int .u64 0, .int .u64 18446744073709551615, .int .i64 (-9223372036854775808), .int .i64 9223372036854775807]))) (br (decide (n < 1)) (K (.agg (#[.int .u64 0, .int .u64 0, .int .u64 0, .int .u64 0, .int .i64 0, .int .i64 0]))) (ob true (decide (0 ≤ IntKind.wrap .i64 (8 * n))) (K (.agg (#[.int .u64 0, .int .u64 (IntKind.wrap .u64 (IntKind.wrap .u64 (1 * 2 ^ min (Int.toNat (IntKind.wrap .i64 (8 * n))) (IntKind.bits .u64)) - 1)), .int .u64 0, .int .u64 (IntKind.wrap .u64 (IntKind.wrap .u64 (1 * 2 ^ min (Int.toNat (IntKind.wrap .i64 (8 * n))) (IntKind.bits .u64)) - 1)), .int .i64 0, .int .i64 (IntKind.wrap .i64 (IntKind.wrap .u64 (IntKind.wrap .u64 (1 * 2 ^ min (Int.toNat (IntKind.wrap .i64 (8 * n))) (IntKind.bits .u64)) - 1)))])))))) := by kernel_rfl
def nUp2 (n : Int) (K : Value → Prop) : Prop := run Tryz.prog [] EEz true 90 22 [.int .i64 n] K
theorem nUp2_eq (n : Int) (K : Value → Prop) : nUp2 n K = (br (decide (n ≥ 8)) (K (.agg (#[.int .u64 0, .int .u64 18446744073709551615, .int .u64 0, .int .u64 18446744073709551615, .int .i64 (-9223372036854775808), .int .i64 9223372036854775807]))) (br (decide (n < 1)) (K (.agg (#[.int .u64 0, .int .u64 0, .int .u64 0, .int .u64 0, .int .i64 0, .int .i64 0]))) (ob true (decide (0 ≤ IntKind.wrap .u64 (IntKind.wrap .i64 (8 * n)))) (K (.agg (#[.int .u64 0, .int .u64 (IntKind.wrap .u64 (IntKind.wrap .u64 (1 * 2 ^ min (Int.toNat (IntKind.wrap .u64 (IntKind.wrap .i64 (8 * n)))) (IntKind.bits .u64)) - 1)), .int .u64 0, .int .u64 (IntKind.wrap .u64 (IntKind.wrap .u64 (1 * 2 ^ min (Int.toNat (IntKind.wrap .u64 (IntKind.wrap .i64 (8 * n)))) (IntKind.bits .u64)) - 1)), .int .i64 0, .int .i64 (IntKind.wrap .i64 (IntKind.wrap .u64 (IntKind.wrap .u64 (1 * 2 ^ min (Int.toNat (IntKind.wrap .u64 (IntKind.wrap .i64 (8 * n)))) (IntKind.bits .u64)) - 1)))])))))) := by kernel_rfl
def nMay (a b c d e f : Int) (K : Value → Prop) : Prop := run Tryz.prog [] EEz true 90 7 [Sc a b c d e f] K
theorem nMay_eq (a b c d e f : Int) (K : Value → Prop) : nMay a b c d e f K = (K (.agg (#[.int .u64 (Go.bits .andNot .u64 a b), .int .u64 b, .int .u64 (if d < c then d else c), .int .u64 (if d > c then d else c), .int .i64 (if f < e then f else e), .int .i64 (if f > e then f else e)]))) := by kernel_rfl
end Go.Proofs.YtceclodenhgoeaaGreat.Zs
end
section
/- Layer 5, against the reference: byte orders: both are the same. -/
namespace Go.Proofs.YtceclodenhgoeaaGreat.Zt
open Go Go.RowKit Go.Proofs Go.Proofs.YtceclodenhgoeaaGreat.Xc Go.Proofs.YtceclodenhgoeaaGreat.Zs Go.Proofs.YtceclodenhgoeaaGreat.By Go.Proofs.YtceclodenhgoeaaGreat.Bv
set_option linter.unusedVariables false
set_option linter.unusedSimpArgs false
theorem divp (v : W) (n : Nat) : U v / 2 ^ n = U (v >>> n) := by
  unfold U; rw [BitVec.toNat_ushiftRight, Nat.shiftRight_eq_div_pow]; simp
theorem mulp (v : W) (n : Nat) : IntKind.u64.wrap (U v * 2 ^ n) = U (v <<< n) := by
  rw [wrap_u64]
  apply congrArg
  apply BitVec.eq_of_toNat_eq
  rw [BitVec.toNat_shiftLeft, Nat.shiftLeft_eq]
  unfold U
  rw [show ((v.toNat : Int) * 2 ^ n) = ((v.toNat * 2 ^ n : Nat) : Int) by simp, BitVec.ofInt_natCast, BitVec.toNat_ofNat]
end Go.Proofs.YtceclodenhgoeaaGreat.Zt
end
section
/- Layer 5, against the reference: ScalarSwap, run. -/
namespace Go.Proofs.YtceclodenhgoeaaGreat.Zu
open Go Go.RowKit Go.Proofs Go.Proofs.YtceclodenhgoeaaGreat.Xc Go.Proofs.YtceclodenhgoeaaGreat.Zs Go.Proofs.YtceclodenhgoeaaGreat.Zt Go.Proofs.YtceclodenhgoeaaGreat.By Go.Proofs.YtceclodenhgoeaaGreat.Bv
set_option maxRecDepth 100000
set_option linter.unusedVariables false
def u6 (x : Int) : Prop := 0 ≤ x ∧ x < 18446744073709551616
/-- The bytes of a number in their order, or the highest first, of so many bits. -/
def swz (k : Int) (high : Bool) (v : Int) : Int := bif decide (k = 16) then U (swp 2 high (BitVec.ofInt 64 v)) else bif decide (k = 32) then U (swp 4 high (BitVec.ofInt 64 v)) else bif decide (k = 64) then U (swp 8 high (BitVec.ofInt 64 v)) else 0
def swo (k : Int) : Bool := decide (k = 16 ∨ k = 32 ∨ k = 64)
def upm (n : Int) : Int := if n ≥ 8 then 18446744073709551615 else if n < 1 then 0 else 2 ^ (8 * n).toNat - 1
def upl (n : Int) : Int := if n ≥ 8 then -9223372036854775808 else 0
def uph (n : Int) : Int := if n ≥ 8 then 9223372036854775807 else upm n
def isv (a b c d e f : Int) : Int := if c = d then c else if b = 0 then a else if e = f then IntKind.wrap .u64 e else 0
def iso (a b c d e f : Int) : Bool := decide (c = d ∨ b = 0 ∨ e = f)
def rg (a b c d e f : Int) : Prop := u6 a ∧ u6 c
noncomputable abbrev TZ : Tab := [
  (10, fun vs K => match vs with
    | [] => K (.bool true)
    | _ => False),
  (7, fun vs K => match vs with
    | [.agg ⟨[.int .u64 a, .int .u64 b, .int .u64 c, .int .u64 d, .int .i64 e, .int .i64 f]⟩] => need (rg a b c d e f ∧ u6 d) (al fun a' => al fun c' => al fun d' => al fun e' => al fun f' => im (rg a' b c' d' e' f') (K (Sc a' b c' d' e' f')))
    | _ => False),
  (13, fun vs K => match vs with
    | [.agg ⟨[.int .u64 a, .int .u64 b, .int .u64 c, .int .u64 d, .int .i64 e, .int .i64 f]⟩] => nm (isv a b c d e f) fun v => nm (iso a b c d e f) fun one => K (.tuple #[.int .u64 v, .bool one])
    | _ => False),
  (14, fun vs K => match vs with
    | [.agg ⟨[.int .u64 a, .int .u64 b, .int .u64 c, .int .u64 d, .int .i64 e, .int .i64 f]⟩] => nm (isv a b c d e f) fun v => nm (iso a b c d e f) fun one => K (.tuple #[.int .u64 v, .bool one])
    | _ => False),
  (88, fun vs K => match vs with
    | [.int .i64 k, .bool high, .int .u64 v] => need (u6 v) (nm (swz k high v) fun n => nm (swo k) fun ok => K (.tuple #[.int .u64 n, .bool ok]))
    | _ => False),
  (89, fun vs K => match vs with
    | [.int .i64 k, .bool high, .int .u64 v] => need (u6 v) (nm (swz k high v) fun n => nm (swo k) fun ok => K (.tuple #[.int .u64 n, .bool ok]))
    | _ => False),
  (21, fun vs K => match vs with
    | [.int .i64 n] => nm (upm n) fun m => nm (upl n) fun l => nm (uph n) fun h => K (Sc 0 m 0 m l h)
    | _ => False),
  (22, fun vs K => match vs with
    | [.int .i64 n] => nm (upm n) fun m => nm (upl n) fun l => nm (uph n) fun h => K (Sc 0 m 0 m l h)
    | _ => False)]
def nLaw (k : Int) (high : Bool) (a b c d e f : Int) (K : Value → Prop) : Prop := run Tryz.prog TZ EEz true 90 6 [.int .i64 k, .bool high, Sc a b c d e f] K
theorem nLaw_eq (k : Int) (high : Bool) (a b c d e f : Int) (K : Value → Prop) : nLaw k high a b c d e f K = (need (Zu.rg a b c d e f ∧ Zu.u6 d) (al fun x => al fun x_1 => al fun x_2 => al fun x_3 => al fun x_4 => im (Zu.rg x b x_1 x_2 x_3 x_4) (nm (Zu.isv x b x_1 x_2 x_3 x_4) fun r => nm (Zu.iso x b x_1 x_2 x_3 x_4) fun r_1 => need (Zu.u6 r) (nm (Zu.swz k high r) fun r => nm (Zu.swo k) fun r_2 => br (!r_2) (nm (Zu.isv x b x_1 x_2 x_3 x_4) fun r => nm (Zu.iso x b x_1 x_2 x_3 x_4) fun r_3 => need (Zu.u6 r) (nm (Zu.swz k high r) fun r => nm (Zu.swo k) fun r_4 => br (!r_4) (ob true true (ob false true (nm true fun r => K (.bool r)))) (br r_3 (ob ((fun x => (fun x => 0 == r && x) (18446744073709551615 == 0) && x) ((fun x => (fun x => 0 == r && x) (18446744073709551615 == r) && x) ((fun x => -9223372036854775808 == IntKind.wrap .i64 r && x) (9223372036854775807 == IntKind.wrap .i64 r)))) ((fun x => (fun x => 0 == r && x) (18446744073709551615 == 0) && x) ((fun x => (fun x => 0 == r && x) (18446744073709551615 == r) && x) ((fun x => -9223372036854775808 == IntKind.wrap .i64 r && x) (9223372036854775807 == IntKind.wrap .i64 r)))) (ob (!(fun x => (fun x => 0 == r && x) (18446744073709551615 == 0) && x) ((fun x => (fun x => 0 == r && x) (18446744073709551615 == r) && x) ((fun x => -9223372036854775808 == IntKind.wrap .i64 r && x) (9223372036854775807 == IntKind.wrap .i64 r)))) true (nm (bif (fun x => (fun x => 0 == r && x) (18446744073709551615 == 0) && x) ((fun x => (fun x => 0 == r && x) (18446744073709551615 == r) && x) ((fun x => -9223372036854775808 == IntKind.wrap .i64 r && x) (9223372036854775807 == IntKind.wrap .i64 r))) then true else false) fun r => K (.bool r)))) (ob (k == 64) (k == 64) (ob (k == 64) (k == 64) (ob (!k == 64) true (nm (bif k == 64 then !high else false) fun r => br r (ob ((fun x_5 => (fun x_6 => 0 == x && x_6) (18446744073709551615 == b) && x_5) ((fun x => (fun x => 0 == x_1 && x) (18446744073709551615 == x_2) && x) ((fun x => -9223372036854775808 == x_3 && x) (9223372036854775807 == x_4)))) ((fun x_5 => (fun x_6 => 0 == x && x_6) (18446744073709551615 == b) && x_5) ((fun x => (fun x => 0 == x_1 && x) (18446744073709551615 == x_2) && x) ((fun x => -9223372036854775808 == x_3 && x) (9223372036854775807 == x_4)))) (ob (!(fun x_5 => (fun x_6 => 0 == x && x_6) (18446744073709551615 == b) && x_5) ((fun x => (fun x => 0 == x_1 && x) (18446744073709551615 == x_2) && x) ((fun x => -9223372036854775808 == x_3 && x) (9223372036854775807 == x_4)))) true (nm (bif (fun x_5 => (fun x_6 => 0 == x && x_6) (18446744073709551615 == b) && x_5) ((fun x => (fun x => 0 == x_1 && x) (18446744073709551615 == x_2) && x) ((fun x => -9223372036854775808 == x_3 && x) (9223372036854775807 == x_4))) then true else false) fun r => K (.bool r)))) (ob true true (nm (Zu.upm (IntKind.wrap .i64 (Int.tdiv k 8))) fun r => nm (Zu.upl (IntKind.wrap .i64 (Int.tdiv k 8))) fun r_5 => nm (Zu.uph (IntKind.wrap .i64 (Int.tdiv k 8))) fun r_6 => ob ((fun x => (fun x => 0 == 0 && x) (18446744073709551615 == r) && x) ((fun x => (fun x => 0 == 0 && x) (18446744073709551615 == r) && x) ((fun x => -9223372036854775808 == r_5 && x) (9223372036854775807 == r_6)))) ((fun x => (fun x => 0 == 0 && x) (18446744073709551615 == r) && x) ((fun x => (fun x => 0 == 0 && x) (18446744073709551615 == r) && x) ((fun x => -9223372036854775808 == r_5 && x) (9223372036854775807 == r_6)))) (ob (!(fun x => (fun x => 0 == 0 && x) (18446744073709551615 == r) && x) ((fun x => (fun x => 0 == 0 && x) (18446744073709551615 == r) && x) ((fun x => -9223372036854775808 == r_5 && x) (9223372036854775807 == r_6)))) true (nm (bif (fun x => (fun x => 0 == 0 && x) (18446744073709551615 == r) && x) ((fun x => (fun x => 0 == 0 && x) (18446744073709551615 == r) && x) ((fun x => -9223372036854775808 == r_5 && x) (9223372036854775807 == r_6))) then true else false) fun r => K (.bool r)))))))))))) (br r_1 (nm (Zu.isv x b x_1 x_2 x_3 x_4) fun r_3 => nm (Zu.iso x b x_1 x_2 x_3 x_4) fun r_4 => need (Zu.u6 r_3) (nm (Zu.swz k high r_3) fun r_5 => nm (Zu.swo k) fun r_6 => br (!r_6) (ob ((fun x => (fun x => r == 0 && x) (0 == 18446744073709551615) && x) ((fun x => (fun x => r == 0 && x) (r == IntKind.wrap .u64 (9223372036854775808 + IntKind.wrap .u64 (9223372036854775808 - 1))) && x) ((fun x => IntKind.wrap .i64 r == -9223372036854775808 && x) (IntKind.wrap .i64 r == 9223372036854775807)))) ((fun x => (fun x => r == 0 && x) (0 == 18446744073709551615) && x) ((fun x => (fun x => r == 0 && x) (r == IntKind.wrap .u64 (9223372036854775808 + IntKind.wrap .u64 (9223372036854775808 - 1))) && x) ((fun x => IntKind.wrap .i64 r == -9223372036854775808 && x) (IntKind.wrap .i64 r == 9223372036854775807)))) (ob (!(fun x => (fun x => r == 0 && x) (0 == 18446744073709551615) && x) ((fun x => (fun x => r == 0 && x) (r == IntKind.wrap .u64 (9223372036854775808 + IntKind.wrap .u64 (9223372036854775808 - 1))) && x) ((fun x => IntKind.wrap .i64 r == -9223372036854775808 && x) (IntKind.wrap .i64 r == 9223372036854775807)))) true (nm (bif (fun x => (fun x => r == 0 && x) (0 == 18446744073709551615) && x) ((fun x => (fun x => r == 0 && x) (r == IntKind.wrap .u64 (9223372036854775808 + IntKind.wrap .u64 (9223372036854775808 - 1))) && x) ((fun x => IntKind.wrap .i64 r == -9223372036854775808 && x) (IntKind.wrap .i64 r == 9223372036854775807))) then true else false) fun r => K (.bool r)))) (br r_4 (ob ((fun x => (fun x => r == r_5 && x) (0 == 0) && x) ((fun x => (fun x => r == r_5 && x) (r == r_5) && x) ((fun x => IntKind.wrap .i64 r == IntKind.wrap .i64 r_5 && x) (IntKind.wrap .i64 r == IntKind.wrap .i64 r_5)))) ((fun x => (fun x => r == r_5 && x) (0 == 0) && x) ((fun x => (fun x => r == r_5 && x) (r == r_5) && x) ((fun x => IntKind.wrap .i64 r == IntKind.wrap .i64 r_5 && x) (IntKind.wrap .i64 r == IntKind.wrap .i64 r_5)))) (ob (!(fun x => (fun x => r == r_5 && x) (0 == 0) && x) ((fun x => (fun x => r == r_5 && x) (r == r_5) && x) ((fun x => IntKind.wrap .i64 r == IntKind.wrap .i64 r_5 && x) (IntKind.wrap .i64 r == IntKind.wrap .i64 r_5)))) true (nm (bif (fun x => (fun x => r == r_5 && x) (0 == 0) && x) ((fun x => (fun x => r == r_5 && x) (r == r_5) && x) ((fun x => IntKind.wrap .i64 r == IntKind.wrap .i64 r_5 && x) (IntKind.wrap .i64 r == IntKind.wrap .i64 r_5))) then true else false) fun r => K (.bool r)))) (ob (k == 64) (k == 64) (ob (k == 64) (k == 64) (ob (!k == 64) true (nm (bif k == 64 then !high else false) fun r_7 => br r_7 (ob ((fun x_5 => (fun x_6 => r == x && x_6) (0 == b) && x_5) ((fun x => (fun x => r == x_1 && x) (r == x_2) && x) ((fun x => IntKind.wrap .i64 r == x_3 && x) (IntKind.wrap .i64 r == x_4)))) ((fun x_5 => (fun x_6 => r == x && x_6) (0 == b) && x_5) ((fun x => (fun x => r == x_1 && x) (r == x_2) && x) ((fun x => IntKind.wrap .i64 r == x_3 && x) (IntKind.wrap .i64 r == x_4)))) (ob (!(fun x_5 => (fun x_6 => r == x && x_6) (0 == b) && x_5) ((fun x => (fun x => r == x_1 && x) (r == x_2) && x) ((fun x => IntKind.wrap .i64 r == x_3 && x) (IntKind.wrap .i64 r == x_4)))) true (nm (bif (fun x_5 => (fun x_6 => r == x && x_6) (0 == b) && x_5) ((fun x => (fun x => r == x_1 && x) (r == x_2) && x) ((fun x => IntKind.wrap .i64 r == x_3 && x) (IntKind.wrap .i64 r == x_4))) then true else false) fun r => K (.bool r)))) (ob true true (nm (Zu.upm (IntKind.wrap .i64 (Int.tdiv k 8))) fun r_8 => nm (Zu.upl (IntKind.wrap .i64 (Int.tdiv k 8))) fun r_9 => nm (Zu.uph (IntKind.wrap .i64 (Int.tdiv k 8))) fun r_10 => ob ((fun x => (fun x => r == 0 && x) (0 == r_8) && x) ((fun x => (fun x => r == 0 && x) (r == r_8) && x) ((fun x => IntKind.wrap .i64 r == r_9 && x) (IntKind.wrap .i64 r == r_10)))) ((fun x => (fun x => r == 0 && x) (0 == r_8) && x) ((fun x => (fun x => r == 0 && x) (r == r_8) && x) ((fun x => IntKind.wrap .i64 r == r_9 && x) (IntKind.wrap .i64 r == r_10)))) (ob (!(fun x => (fun x => r == 0 && x) (0 == r_8) && x) ((fun x => (fun x => r == 0 && x) (r == r_8) && x) ((fun x => IntKind.wrap .i64 r == r_9 && x) (IntKind.wrap .i64 r == r_10)))) true (nm (bif (fun x => (fun x => r == 0 && x) (0 == r_8) && x) ((fun x => (fun x => r == 0 && x) (r == r_8) && x) ((fun x => IntKind.wrap .i64 r == r_9 && x) (IntKind.wrap .i64 r == r_10))) then true else false) fun r => K (.bool r)))))))))))) (ob (k == 64) (k == 64) (ob (k == 64) (k == 64) (ob (!k == 64) true (nm (bif k == 64 then !high else false) fun r => br r (nm (Zu.isv x b x_1 x_2 x_3 x_4) fun r => nm (Zu.iso x b x_1 x_2 x_3 x_4) fun r_3 => need (Zu.u6 r) (nm (Zu.swz k high r) fun r => nm (Zu.swo k) fun r_4 => br (!r_4) (ob ((fun x_5 => (fun x_6 => x == 0 && x_6) (b == 18446744073709551615) && x_5) ((fun x => (fun x => x_1 == 0 && x) (x_2 == IntKind.wrap .u64 (9223372036854775808 + IntKind.wrap .u64 (9223372036854775808 - 1))) && x) ((fun x => x_3 == -9223372036854775808 && x) (x_4 == 9223372036854775807)))) ((fun x_5 => (fun x_6 => x == 0 && x_6) (b == 18446744073709551615) && x_5) ((fun x => (fun x => x_1 == 0 && x) (x_2 == IntKind.wrap .u64 (9223372036854775808 + IntKind.wrap .u64 (9223372036854775808 - 1))) && x) ((fun x => x_3 == -9223372036854775808 && x) (x_4 == 9223372036854775807)))) (ob (!(fun x_5 => (fun x_6 => x == 0 && x_6) (b == 18446744073709551615) && x_5) ((fun x => (fun x => x_1 == 0 && x) (x_2 == IntKind.wrap .u64 (9223372036854775808 + IntKind.wrap .u64 (9223372036854775808 - 1))) && x) ((fun x => x_3 == -9223372036854775808 && x) (x_4 == 9223372036854775807)))) true (nm (bif (fun x_5 => (fun x_6 => x == 0 && x_6) (b == 18446744073709551615) && x_5) ((fun x => (fun x => x_1 == 0 && x) (x_2 == IntKind.wrap .u64 (9223372036854775808 + IntKind.wrap .u64 (9223372036854775808 - 1))) && x) ((fun x => x_3 == -9223372036854775808 && x) (x_4 == 9223372036854775807))) then true else false) fun r => K (.bool r)))) (br r_3 (ob ((fun x_5 => (fun x_6 => x == r && x_6) (b == 0) && x_5) ((fun x => (fun x => x_1 == r && x) (x_2 == r) && x) ((fun x => x_3 == IntKind.wrap .i64 r && x) (x_4 == IntKind.wrap .i64 r)))) ((fun x_5 => (fun x_6 => x == r && x_6) (b == 0) && x_5) ((fun x => (fun x => x_1 == r && x) (x_2 == r) && x) ((fun x => x_3 == IntKind.wrap .i64 r && x) (x_4 == IntKind.wrap .i64 r)))) (ob (!(fun x_5 => (fun x_6 => x == r && x_6) (b == 0) && x_5) ((fun x => (fun x => x_1 == r && x) (x_2 == r) && x) ((fun x => x_3 == IntKind.wrap .i64 r && x) (x_4 == IntKind.wrap .i64 r)))) true (nm (bif (fun x_5 => (fun x_6 => x == r && x_6) (b == 0) && x_5) ((fun x => (fun x => x_1 == r && x) (x_2 == r) && x) ((fun x => x_3 == IntKind.wrap .i64 r && x) (x_4 == IntKind.wrap .i64 r))) then true else false) fun r => K (.bool r)))) (ob (k == 64) (k == 64) (ob (k == 64) (k == 64) (ob (!k == 64) true (nm (bif k == 64 then !high else false) fun r => br r (ob ((fun x_5 => (fun x_6 => x == x && x_6) (b == b) && x_5) ((fun x => (fun x => x_1 == x_1 && x) (x_2 == x_2) && x) ((fun x => x_3 == x_3 && x) (x_4 == x_4)))) ((fun x_5 => (fun x_6 => x == x && x_6) (b == b) && x_5) ((fun x => (fun x => x_1 == x_1 && x) (x_2 == x_2) && x) ((fun x => x_3 == x_3 && x) (x_4 == x_4)))) (ob (!(fun x_5 => (fun x_6 => x == x && x_6) (b == b) && x_5) ((fun x => (fun x => x_1 == x_1 && x) (x_2 == x_2) && x) ((fun x => x_3 == x_3 && x) (x_4 == x_4)))) true (nm (bif (fun x_5 => (fun x_6 => x == x && x_6) (b == b) && x_5) ((fun x => (fun x => x_1 == x_1 && x) (x_2 == x_2) && x) ((fun x => x_3 == x_3 && x) (x_4 == x_4))) then true else false) fun r => K (.bool r)))) (ob true true (nm (Zu.upm (IntKind.wrap .i64 (Int.tdiv k 8))) fun r => nm (Zu.upl (IntKind.wrap .i64 (Int.tdiv k 8))) fun r_5 => nm (Zu.uph (IntKind.wrap .i64 (Int.tdiv k 8))) fun r_6 => ob ((fun x_5 => (fun x_6 => x == 0 && x_6) (b == r) && x_5) ((fun x => (fun x => x_1 == 0 && x) (x_2 == r) && x) ((fun x => x_3 == r_5 && x) (x_4 == r_6)))) ((fun x_5 => (fun x_6 => x == 0 && x_6) (b == r) && x_5) ((fun x => (fun x => x_1 == 0 && x) (x_2 == r) && x) ((fun x => x_3 == r_5 && x) (x_4 == r_6)))) (ob (!(fun x_5 => (fun x_6 => x == 0 && x_6) (b == r) && x_5) ((fun x => (fun x => x_1 == 0 && x) (x_2 == r) && x) ((fun x => x_3 == r_5 && x) (x_4 == r_6)))) true (nm (bif (fun x_5 => (fun x_6 => x == 0 && x_6) (b == r) && x_5) ((fun x => (fun x => x_1 == 0 && x) (x_2 == r) && x) ((fun x => x_3 == r_5 && x) (x_4 == r_6))) then true else false) fun r => K (.bool r)))))))))))) (ob true true (nm (Zu.upm (IntKind.wrap .i64 (Int.tdiv k 8))) fun r => nm (Zu.upl (IntKind.wrap .i64 (Int.tdiv k 8))) fun r_3 => nm (Zu.uph (IntKind.wrap .i64 (Int.tdiv k 8))) fun r_4 => nm (Zu.isv x b x_1 x_2 x_3 x_4) fun r_5 => nm (Zu.iso x b x_1 x_2 x_3 x_4) fun r_6 => need (Zu.u6 r_5) (nm (Zu.swz k high r_5) fun r_7 => nm (Zu.swo k) fun r_8 => br (!r_8) (ob ((fun x => (fun x => 0 == 0 && x) (r == 18446744073709551615) && x) ((fun x => (fun x => 0 == 0 && x) (r == IntKind.wrap .u64 (9223372036854775808 + IntKind.wrap .u64 (9223372036854775808 - 1))) && x) ((fun x => r_3 == -9223372036854775808 && x) (r_4 == 9223372036854775807)))) ((fun x => (fun x => 0 == 0 && x) (r == 18446744073709551615) && x) ((fun x => (fun x => 0 == 0 && x) (r == IntKind.wrap .u64 (9223372036854775808 + IntKind.wrap .u64 (9223372036854775808 - 1))) && x) ((fun x => r_3 == -9223372036854775808 && x) (r_4 == 9223372036854775807)))) (ob (!(fun x => (fun x => 0 == 0 && x) (r == 18446744073709551615) && x) ((fun x => (fun x => 0 == 0 && x) (r == IntKind.wrap .u64 (9223372036854775808 + IntKind.wrap .u64 (9223372036854775808 - 1))) && x) ((fun x => r_3 == -9223372036854775808 && x) (r_4 == 9223372036854775807)))) true (nm (bif (fun x => (fun x => 0 == 0 && x) (r == 18446744073709551615) && x) ((fun x => (fun x => 0 == 0 && x) (r == IntKind.wrap .u64 (9223372036854775808 + IntKind.wrap .u64 (9223372036854775808 - 1))) && x) ((fun x => r_3 == -9223372036854775808 && x) (r_4 == 9223372036854775807))) then true else false) fun r => K (.bool r)))) (br r_6 (ob ((fun x => (fun x => 0 == r_7 && x) (r == 0) && x) ((fun x => (fun x => 0 == r_7 && x) (r == r_7) && x) ((fun x => r_3 == IntKind.wrap .i64 r_7 && x) (r_4 == IntKind.wrap .i64 r_7)))) ((fun x => (fun x => 0 == r_7 && x) (r == 0) && x) ((fun x => (fun x => 0 == r_7 && x) (r == r_7) && x) ((fun x => r_3 == IntKind.wrap .i64 r_7 && x) (r_4 == IntKind.wrap .i64 r_7)))) (ob (!(fun x => (fun x => 0 == r_7 && x) (r == 0) && x) ((fun x => (fun x => 0 == r_7 && x) (r == r_7) && x) ((fun x => r_3 == IntKind.wrap .i64 r_7 && x) (r_4 == IntKind.wrap .i64 r_7)))) true (nm (bif (fun x => (fun x => 0 == r_7 && x) (r == 0) && x) ((fun x => (fun x => 0 == r_7 && x) (r == r_7) && x) ((fun x => r_3 == IntKind.wrap .i64 r_7 && x) (r_4 == IntKind.wrap .i64 r_7))) then true else false) fun r => K (.bool r)))) (ob (k == 64) (k == 64) (ob (k == 64) (k == 64) (ob (!k == 64) true (nm (bif k == 64 then !high else false) fun r_9 => br r_9 (ob ((fun x_5 => (fun x_6 => 0 == x && x_6) (r == b) && x_5) ((fun x => (fun x => 0 == x_1 && x) (r == x_2) && x) ((fun x => r_3 == x_3 && x) (r_4 == x_4)))) ((fun x_5 => (fun x_6 => 0 == x && x_6) (r == b) && x_5) ((fun x => (fun x => 0 == x_1 && x) (r == x_2) && x) ((fun x => r_3 == x_3 && x) (r_4 == x_4)))) (ob (!(fun x_5 => (fun x_6 => 0 == x && x_6) (r == b) && x_5) ((fun x => (fun x => 0 == x_1 && x) (r == x_2) && x) ((fun x => r_3 == x_3 && x) (r_4 == x_4)))) true (nm (bif (fun x_5 => (fun x_6 => 0 == x && x_6) (r == b) && x_5) ((fun x => (fun x => 0 == x_1 && x) (r == x_2) && x) ((fun x => r_3 == x_3 && x) (r_4 == x_4))) then true else false) fun r => K (.bool r)))) (ob true true (nm (Zu.upm (IntKind.wrap .i64 (Int.tdiv k 8))) fun r_10 => nm (Zu.upl (IntKind.wrap .i64 (Int.tdiv k 8))) fun r_11 => nm (Zu.uph (IntKind.wrap .i64 (Int.tdiv k 8))) fun r_12 => ob ((fun x => (fun x => 0 == 0 && x) (r == r_10) && x) ((fun x => (fun x => 0 == 0 && x) (r == r_10) && x) ((fun x => r_3 == r_11 && x) (r_4 == r_12)))) ((fun x => (fun x => 0 == 0 && x) (r == r_10) && x) ((fun x => (fun x => 0 == 0 && x) (r == r_10) && x) ((fun x => r_3 == r_11 && x) (r_4 == r_12)))) (ob (!(fun x => (fun x => 0 == 0 && x) (r == r_10) && x) ((fun x => (fun x => 0 == 0 && x) (r == r_10) && x) ((fun x => r_3 == r_11 && x) (r_4 == r_12)))) true (nm (bif (fun x => (fun x => 0 == 0 && x) (r == r_10) && x) ((fun x => (fun x => 0 == 0 && x) (r == r_10) && x) ((fun x => r_3 == r_11 && x) (r_4 == r_12))) then true else false) fun r => K (.bool r)))))))))))))))))))))) := by kernel_rfl
end Go.Proofs.YtceclodenhgoeaaGreat.Zu
end
section
/- Layer 5, against the reference: the closed statement that each law asks. -/
set_option linter.unusedVariables false
set_option linter.unusedSimpArgs false
set_option linter.unusedSectionVars false
namespace Go.Proofs.YtceclodenhgoeaaGreat.Zk
open Go Go.Proofs Go.Proofs.YtceclodenhgoeaaGreat.Xc
set_option maxRecDepth 100000
noncomputable abbrev EEk : Eqs := [(24, eqS Tryz.prog 24), (26, eqS Tryz.prog 26), (28, eqS Tryz.prog 28), (30, eqS Tryz.prog 30), (140, eqS Tryz.prog 140)]
theorem eek : EqOk Tryz.prog EEk := eq_cons (by kernel_rfl) (eq_cons (by kernel_rfl) (eq_cons (by kernel_rfl) (eq_cons (by kernel_rfl) (eq_cons (by kernel_rfl) eq_nil))))
def nknown (K : Value → Prop) : Prop := run Tryz.prog [] EEk false 90 10 [] K
theorem nknown_eq (K : Value → Prop) : nknown K = (ob false true (ob true true (ob true true (ob false true (ob true true (ob false true (ob true true (ob false true (ob false true (ob true true (ob false true (ob true true (ob false true (ob true true (ob false true (ob true true (ob false true (ob true true (ob false true (ob true true (ob false true (ob true true (ob true true (ob false true (ob true true (ob false true (ob true true (ob false true (ob true true (ob false true (ob true true (ob false true (ob true true (ob false true (ob true true (ob false true (ob true true (ob false true (ob true true (ob false true (ob true true (ob false true (ob true true (ob false true (ob true true (ob false true (ob true true (ob false true (ob true true (ob false true (ob true true (ob false true (ob true true (ob false true (ob true true (ob true true (ob true true (ob true true (ob true true (ob true true (ob true true (ob true true (ob true true (ob true true (ob true true (ob true true (ob true true (ob true true (ob true true (ob true true (ob true true (ob true true (ob true true (ob true true (ob true true (ob true true (ob true true (ob true true (ob true true (ob true true (ob true true (ob true true (ob true true (ob true true (ob true true (ob true true (ob true true (ob true true (ob true true (ob true true (ob true true (ob false true (ob true true (ob false true (ob true true (ob false true (ob true true (ob false true (ob true true (ob false true (ob true true (ob false true (ob true true (ob true true (ob false true (ob true true (ob false true (ob true true (ob false true (ob true true (ob false true (ob true true (ob false true (ob true true (ob false true (ob true true (ob false true (ob true true (ob false true (ob true true (ob false true (ob true true (ob false true (ob true true (ob false true (ob true true (ob false true (ob true true (ob false true (ob true true (ob false true (ob true true (ob false true (ob true true (ob true true (ob false true (ob true true (ob false true (ob true true (ob false true (ob true true (ob false true (ob true true (ob false true (ob true true (ob false true (ob true true (ob false true (ob true true (ob false true (ob true true (ob false true (ob true true (ob false true (ob true true (ob false true (ob true true (ob false true (ob true true (ob true true (ob false true (K (.bool true))))))))))))))))))))))))))))))))))))))))))))))))))))))))))))))))))))))))))))))))))))))))))))))))))))))))))))))))))))))))))))))))))))))))))))))))))))))))))))))))))) := by kernel_rfl
theorem oknown : nknown (· = .bool true) := by
  rw [nknown_eq]; (repeat (first | refine ob_self ?_ | refine ob_true ?_ | (refine nm_intro ?_; intro _ _))); rfl
end Go.Proofs.YtceclodenhgoeaaGreat.Zk
end
section
/- Layer 5, against the reference: ScalarSwap, the law. -/
namespace Go.Proofs.YtceclodenhgoeaaGreat.Zv
open Go Go.RowKit Go.Proofs Go.Proofs.YtceclodenhgoeaaGreat.Xc Go.Proofs.YtceclodenhgoeaaGreat.Zs Go.Proofs.YtceclodenhgoeaaGreat.Zt Go.Proofs.YtceclodenhgoeaaGreat.Zu Go.Proofs.YtceclodenhgoeaaGreat.Zk Go.Proofs.YtceclodenhgoeaaGreat.By Go.Proofs.YtceclodenhgoeaaGreat.Bv
set_option linter.unusedVariables false
set_option linter.unusedSimpArgs false
theorem uW (v : Int) : IntKind.u64.wrap v = v % 18446744073709551616 := by rw [wrap_u64, U_ofInt]
theorem exu {x : Int} (h : u6 x) : ∃ X : W, x = U X := ⟨BitVec.ofInt 64 x, by rw [U_ofInt]; unfold u6 at h; omega⟩
theorem isv_u {a b c d e f : Int} (h : rg a b c d e f) : u6 (isv a b c d e f) := by
  have w : u6 (IntKind.wrap .u64 e) := by rw [uW]; unfold u6; omega
  have z : u6 0 := by unfold u6; omega
  obtain ⟨h1, h2⟩ := h
  unfold isv
  split
  · exact h2
  · split
    · exact h1
    · split
      · exact w
      · exact z
theorem is_as {a b c d e f : Int} {K : Value → Prop} (h : K (.tuple #[.int .u64 (isv a b c d e f), .bool (iso a b c d e f)])) :
    br (c == d) (K (.tuple (#[.int .u64 c, .bool true]))) (br (b == 0) (K (.tuple (#[.int .u64 a, .bool true]))) (br (e == f) (K (.tuple (#[.int .u64 (IntKind.wrap .u64 e), .bool true]))) (K (.tuple (#[.int .u64 0, .bool false]))))) := by
  unfold isv iso at h
  refine br_cases (fun q => ?_) (fun q => br_cases (fun q2 => ?_) (fun q2 => br_cases (fun q3 => ?_) (fun q3 => ?_)))
  · have q := eq_of_beq q
    rw [if_pos q, decide_eq_true (Or.inl q)] at h; exact h
  · have q := beq_eq_false_iff_ne.1 q
    have q2 := eq_of_beq q2
    rw [if_neg q, if_pos q2, decide_eq_true (Or.inr (Or.inl q2))] at h; exact h
  · have q := beq_eq_false_iff_ne.1 q
    have q2 := beq_eq_false_iff_ne.1 q2
    have q3 := eq_of_beq q3
    rw [if_neg q, if_neg q2, if_pos q3, decide_eq_true (Or.inr (Or.inr q3))] at h; exact h
  · have q := beq_eq_false_iff_ne.1 q
    have q2 := beq_eq_false_iff_ne.1 q2
    have q3 := beq_eq_false_iff_ne.1 q3
    rw [if_neg q, if_neg q2, if_neg q3, decide_eq_false (by rintro (h | h | h) <;> contradiction)] at h; exact h
theorem oLaw (k : Int) (high : Bool) (a b c d e f : Int) (h : rg a b c d e f) (hd : u6 d) : nLaw k high a b c d e f (· = .bool true) := by
  rw [nLaw_eq]
  refine ⟨⟨h, hd⟩, fun a' c' d' e' f' hr => ?_⟩
  have hu := isv_u hr
  cases hk : swo k <;> cases hi : iso a' b c' d' e' f' <;> cases h6 : (bif k == 64 then !high else false)
  all_goals (repeat (first | with_reducible refine ob_self ?_ | with_reducible refine ob_true ?_ | ((with_reducible refine nm_intro ?_); intro r hr; subst hr) | (refine ⟨hu, ?_⟩) | ((with_reducible refine br_no ?_ ?_); exact rfl) | ((with_reducible refine br_yes ?_ ?_); exact rfl)))
  all_goals simp only [beq_self_eq_true, Bool.and_self, Bool.and_true, cond_true]
end Go.Proofs.YtceclodenhgoeaaGreat.Zv
end
section
/- Layer 5, against the reference: byte orders that are none, run. -/
namespace Go.Proofs.YtceclodenhgoeaaGreat.Zw
open Go Go.RowKit Go.Proofs Go.Proofs.YtceclodenhgoeaaGreat.Xc Go.Proofs.YtceclodenhgoeaaGreat.Zs
set_option maxRecDepth 100000
set_option linter.unusedVariables false
end Go.Proofs.YtceclodenhgoeaaGreat.Zw
end
section
/- Layer 5, against the reference: ScalarSwap, the contracts. -/
namespace Go.Proofs.YtceclodenhgoeaaGreat.Zx
open Go Go.RowKit Go.Proofs Go.Proofs.YtceclodenhgoeaaGreat.Xc Go.Proofs.YtceclodenhgoeaaGreat.Zs Go.Proofs.YtceclodenhgoeaaGreat.Zt Go.Proofs.YtceclodenhgoeaaGreat.Zu Go.Proofs.YtceclodenhgoeaaGreat.Zk Go.Proofs.YtceclodenhgoeaaGreat.Zv Go.Proofs.YtceclodenhgoeaaGreat.Zw Go.Proofs.YtceclodenhgoeaaGreat.By Go.Proofs.YtceclodenhgoeaaGreat.Bv
set_option linter.unusedVariables false
set_option linter.unusedSimpArgs false
theorem oUp1 (n : Int) : nUp1 n (· = Sc 0 (upm n) 0 (upm n) (upl n) (uph n)) := by
  rw [nUp1_eq]
  refine br_cases (fun h => ?_) (fun h => br_cases (fun h2 => ?_) (fun h2 => ?_))
  · have h := of_decide_eq_true h
    simp only [upm, upl, uph, if_pos h]
  · have h := of_decide_eq_false h
    have h2 := of_decide_eq_true h2
    simp only [upm, upl, uph, if_neg h, if_pos h2]
  · have h := of_decide_eq_false h
    have h2 := of_decide_eq_false h2
    have : n = 1 ∨ n = 2 ∨ n = 3 ∨ n = 4 ∨ n = 5 ∨ n = 6 ∨ n = 7 := by omega
    rcases this with rfl | rfl | rfl | rfl | rfl | rfl | rfl <;> exact ⟨fun _ => by decide, by kernel_rfl⟩
theorem oUp2 (n : Int) : nUp2 n (· = Sc 0 (upm n) 0 (upm n) (upl n) (uph n)) := by
  rw [nUp2_eq]
  refine br_cases (fun h => ?_) (fun h => br_cases (fun h2 => ?_) (fun h2 => ?_))
  · have h := of_decide_eq_true h
    simp only [upm, upl, uph, if_pos h]
  · have h := of_decide_eq_false h
    have h2 := of_decide_eq_true h2
    simp only [upm, upl, uph, if_neg h, if_pos h2]
  · have h := of_decide_eq_false h
    have h2 := of_decide_eq_false h2
    have : n = 1 ∨ n = 2 ∨ n = 3 ∨ n = 4 ∨ n = 5 ∨ n = 6 ∨ n = 7 := by omega
    rcases this with rfl | rfl | rfl | rfl | rfl | rfl | rfl <;> exact ⟨fun _ => by decide, by kernel_rfl⟩
end Go.Proofs.YtceclodenhgoeaaGreat.Zx
end
section
/- Layer 5, against the reference: rounds of ref04.ToT and ref03.Meet, run. -/
namespace Go.Proofs.YtceclodenhgoeaaGreat.Zr
open Go Go.RowKit Go.Proofs Go.Proofs.YtceclodenhgoeaaGreat.Xc Go.Proofs.YtceclodenhgoeaaGreat.Zs
set_option maxRecDepth 100000
set_option linter.unusedVariables false
noncomputable abbrev TAl : Tab := [(68, fun vs K => match vs with
  | [] => K (.agg #[.int .u64 0, .int .u64 18446744073709551615])
  | _ => False)]
def nUAll (K : Value → Prop) : Prop := run Tryz.prog [] EEz true 90 68 [] K
theorem nUAll_eq (K : Value → Prop) : nUAll K = (K (.agg (#[.int .u64 0, .int .u64 18446744073709551615]))) := by kernel_rfl
noncomputable def bodyT : Code := match blk Tryz.prog 168 0 with
  | .loop c => c
  | _ => .skip
noncomputable def bodyP : Code := match blk Tryz.prog 154 0 with
  | .loop c => c
  | _ => .skip
def ST (x0 : Value) (c d n : Int) : St := ⟨[.v x0, .p 0 0, .p 1 0, .v (.int .u64 n)] ++ List.replicate 42 .any, [[.v (.int .u64 c), .v (.int .u64 d)], [.v (.int .u64 0), .v (.int .u64 0)]]⟩
def SP (x0 x1 : Value) (a am b bm o om i : Int) : St := ⟨[.v x0, .v x1, .p 0 0, .p 1 0, .p 2 0, .v (.bool false), .p 3 0, .v (.int .u64 i)] ++ List.replicate 63 .any, [[.v (.int .u64 a), .v (.int .u64 am)], [.v (.int .u64 b), .v (.int .u64 bm)], [.v (.int .u64 0), .v (.int .u64 0)], [.v (.int .u64 o), .v (.int .u64 om)]]⟩
def nRt (x0 : Value) (c d n : Int) (K : Exit → St → Prop) : Prop := rndL Tryz.prog TAl EEz true [] 90 [0, 1, 2, 3] 2 bodyT (ST x0 c d n) K
theorem nRt_eq (x0 : Value) (c d n : Int) (K : Exit → St → Prop) : nRt x0 c d n K = (ob (decide (n < 18446744073709551615)) (decide (n < 18446744073709551615)) (ob (decide (n < 18446744073709551615)) (decide (n < 18446744073709551615)) (ob (decide (n < 18446744073709551615)) (decide (n < 18446744073709551615)) (ob (decide (n < 18446744073709551615)) (decide (n < 18446744073709551615)) (ob (decide (n < 18446744073709551615)) (decide (n < 18446744073709551615)) (ob (decide (n < 18446744073709551615)) (IntKind.wrap .u64 (n + 1) != 0) (ob (decide (n < 18446744073709551615)) (decide (n < 18446744073709551615)) (ob (decide (n < 18446744073709551615)) (decide (n < 18446744073709551615)) (ob (decide (n < 18446744073709551615)) (decide (n < 18446744073709551615)) (ob (decide (n < 18446744073709551615)) (decide (n < 18446744073709551615)) (ob (decide (n < 18446744073709551615)) (decide (n < 18446744073709551615)) (ob (decide (n < 18446744073709551615)) (decide (n < 18446744073709551615)) (ob (decide (n < 18446744073709551615)) (decide (n < 18446744073709551615)) (ob (decide (n < 18446744073709551615)) (IntKind.wrap .u64 (n + 1) != 0) (ob (decide (n < 18446744073709551615)) (decide (n < 18446744073709551615)) (ob (decide (n < 18446744073709551615)) (decide (n < 18446744073709551615)) (ob (decide (n < 18446744073709551615)) (decide (n < 18446744073709551615)) (ob (decide (n < 18446744073709551615)) (decide (n < 18446744073709551615)) (ob (decide (n < 18446744073709551615)) (decide (n < 18446744073709551615)) (ob (decide (n < 18446744073709551615)) (decide (n < 18446744073709551615)) (ob (decide (n < 18446744073709551615)) (decide (n < 18446744073709551615)) (ob (!decide (n < 18446744073709551615)) true (nm (bif decide (n < 18446744073709551615) then IntKind.wrap .u64 (c - Int.tmod c (IntKind.wrap .u64 (n + 1))) != IntKind.wrap .u64 (d - Int.tmod d (IntKind.wrap .u64 (n + 1))) else false) fun r => br r (K Go.Exit.normal (St.mk [AV.v x0, AV.p 0 0, AV.p 1 0, AV.v (.int .u64 (IntKind.wrap .u64 (IntKind.wrap .u64 (2 * n) + 1))), AV.any, AV.any, AV.any, AV.any, AV.any, AV.any, AV.any, AV.any, AV.any, AV.any, AV.any, AV.any, AV.any, AV.any, AV.any, AV.any, AV.any, AV.any, AV.any, AV.any, AV.any, AV.any, AV.any, AV.any, AV.any, AV.any, AV.any, AV.any, AV.any, AV.any, AV.any, AV.any, AV.any, AV.any, AV.any, AV.any, AV.any, AV.any, AV.any, AV.any, AV.any, AV.any] [[AV.v (.int .u64 c), AV.v (.int .u64 d)], [AV.v (.int .u64 0), AV.v (.int .u64 0)]])) (K (Go.Exit.exit 0) (St.mk [AV.v x0, AV.p 0 0, AV.p 1 0, AV.v (.int .u64 n), AV.any, AV.any, AV.any, AV.any, AV.any, AV.any, AV.any, AV.any, AV.any, AV.any, AV.any, AV.any, AV.any, AV.any, AV.any, AV.any, AV.any, AV.any, AV.any, AV.any, AV.any, AV.any, AV.any, AV.any, AV.any, AV.any, AV.any, AV.any, AV.any, AV.any, AV.any, AV.any, AV.any, AV.any, AV.any, AV.any, AV.any, AV.any, AV.any, AV.any, AV.any, AV.any] [[AV.v (.int .u64 c), AV.v (.int .u64 d)], [AV.v (.int .u64 0), AV.v (.int .u64 0)]]))))))))))))))))))))))))) := by kernel_rfl
def nRm (x0 x1 : Value) (a am b bm o om i : Int) (K : Exit → St → Prop) : Prop := rndL Tryz.prog [] EEz true [] 90 [0, 1, 2, 3, 4, 5, 6, 7] 4 bodyP (SP x0 x1 a am b bm o om i) K
theorem nRm_eq (x0 x1 : Value) (a am b bm o om i : Int) (K : Exit → St → Prop) : nRm x0 x1 a am b bm o om i K = (br (decide (i < 64)) (ob true (decide (0 ≤ i)) (ob true true (ob true (decide (0 ≤ i)) (ob true true (ob (Int.tmod (am / 2 ^ min (Int.toNat i) (IntKind.bits .u64)) 2 == 0) (Int.tmod (am / 2 ^ min (Int.toNat i) (IntKind.bits .u64)) 2 == 0) (ob (!Int.tmod (am / 2 ^ min (Int.toNat i) (IntKind.bits .u64)) 2 == 0) true (nm (bif Int.tmod (am / 2 ^ min (Int.toNat i) (IntKind.bits .u64)) 2 == 0 then Int.tmod (bm / 2 ^ min (Int.toNat i) (IntKind.bits .u64)) 2 == 0 else false) fun r => ob r r (ob r r (ob r r (ob r (decide (0 ≤ i)) (ob r r (ob r true (ob r r (ob r r (ob r r (ob r (decide (0 ≤ i)) (ob r r (ob r true (ob r r (ob r r (ob r r (ob r r (ob r r (ob (!r) true (nm (bif r then Int.tmod (a / 2 ^ min (Int.toNat i) (IntKind.bits .u64)) 2 != Int.tmod (b / 2 ^ min (Int.toNat i) (IntKind.bits .u64)) 2 else false) fun r => br r (K Go.Exit.ret (St.mk [AV.v x0, AV.v x1, AV.p 0 0, AV.p 1 0, AV.p 2 0, AV.v (.bool false), AV.p 3 0, AV.v (.int .u64 i), AV.any, AV.any, AV.any, AV.any, AV.any, AV.any, AV.any, AV.any, AV.any, AV.any, AV.any, AV.any, AV.any, AV.any, AV.any, AV.any, AV.any, AV.any, AV.any, AV.any, AV.any, AV.any, AV.any, AV.any, AV.any, AV.any, AV.any, AV.any, AV.any, AV.any, AV.any, AV.any, AV.any, AV.any, AV.any, AV.any, AV.any, AV.any, AV.any, AV.any, AV.any, AV.any, AV.any, AV.any, AV.any, AV.any, AV.any, AV.any, AV.any, AV.any, AV.any, AV.any, AV.any, AV.any, AV.any, AV.any, AV.any, AV.any, AV.any, AV.any, AV.any, AV.any, AV.any] [[AV.v (.int .u64 a), AV.v (.int .u64 am)], [AV.v (.int .u64 b), AV.v (.int .u64 bm)], [AV.v (.int .u64 0), AV.v (.int .u64 0)], [AV.v (.int .u64 o), AV.v (.int .u64 om)]])) (ob (!Int.tmod (am / 2 ^ min (Int.toNat i) (IntKind.bits .u64)) 2 == 0) (!Int.tmod (am / 2 ^ min (Int.toNat i) (IntKind.bits .u64)) 2 == 0) (ob (!Int.tmod (am / 2 ^ min (Int.toNat i) (IntKind.bits .u64)) 2 == 0) (!Int.tmod (am / 2 ^ min (Int.toNat i) (IntKind.bits .u64)) 2 == 0) (ob (!!Int.tmod (am / 2 ^ min (Int.toNat i) (IntKind.bits .u64)) 2 == 0) true (nm (bif !Int.tmod (am / 2 ^ min (Int.toNat i) (IntKind.bits .u64)) 2 == 0 then !Int.tmod (bm / 2 ^ min (Int.toNat i) (IntKind.bits .u64)) 2 == 0 else false) fun r => br r (ob true (decide (0 ≤ i)) (ob true (decide (0 ≤ i)) (ob true true (ob true (decide (0 ≤ i)) (K Go.Exit.normal (St.mk [AV.v x0, AV.v x1, AV.p 0 0, AV.p 1 0, AV.p 2 0, AV.v (.bool false), AV.p 3 0, AV.v (.int .u64 (IntKind.wrap .u64 (i + 1))), AV.any, AV.any, AV.any, AV.any, AV.any, AV.any, AV.any, AV.any, AV.any, AV.any, AV.any, AV.any, AV.any, AV.any, AV.any, AV.any, AV.any, AV.any, AV.any, AV.any, AV.any, AV.any, AV.any, AV.any, AV.any, AV.any, AV.any, AV.any, AV.any, AV.any, AV.any, AV.any, AV.any, AV.any, AV.any, AV.any, AV.any, AV.any, AV.any, AV.any, AV.any, AV.any, AV.any, AV.any, AV.any, AV.any, AV.any, AV.any, AV.any, AV.any, AV.any, AV.any, AV.any, AV.any, AV.any, AV.any, AV.any, AV.any, AV.any, AV.any, AV.any, AV.any, AV.any] [[AV.v (.int .u64 a), AV.v (.int .u64 am)], [AV.v (.int .u64 b), AV.v (.int .u64 bm)], [AV.v (.int .u64 0), AV.v (.int .u64 0)], [AV.v (.int .u64 (Go.bits .or .u64 o (IntKind.wrap .u64 (Int.tmod (Go.bits .or .u64 a b / 2 ^ min (Int.toNat i) (IntKind.bits .u64)) 2 * 2 ^ min (Int.toNat i) (IntKind.bits .u64))))), AV.v (.int .u64 (Go.bits .or .u64 om (IntKind.wrap .u64 (1 * 2 ^ min (Int.toNat i) (IntKind.bits .u64)))))]])))))) (ob true (decide (0 ≤ i)) (ob true true (ob true (decide (0 ≤ i)) (K Go.Exit.normal (St.mk [AV.v x0, AV.v x1, AV.p 0 0, AV.p 1 0, AV.p 2 0, AV.v (.bool false), AV.p 3 0, AV.v (.int .u64 (IntKind.wrap .u64 (i + 1))), AV.any, AV.any, AV.any, AV.any, AV.any, AV.any, AV.any, AV.any, AV.any, AV.any, AV.any, AV.any, AV.any, AV.any, AV.any, AV.any, AV.any, AV.any, AV.any, AV.any, AV.any, AV.any, AV.any, AV.any, AV.any, AV.any, AV.any, AV.any, AV.any, AV.any, AV.any, AV.any, AV.any, AV.any, AV.any, AV.any, AV.any, AV.any, AV.any, AV.any, AV.any, AV.any, AV.any, AV.any, AV.any, AV.any, AV.any, AV.any, AV.any, AV.any, AV.any, AV.any, AV.any, AV.any, AV.any, AV.any, AV.any, AV.any, AV.any, AV.any, AV.any, AV.any, AV.any] [[AV.v (.int .u64 a), AV.v (.int .u64 am)], [AV.v (.int .u64 b), AV.v (.int .u64 bm)], [AV.v (.int .u64 0), AV.v (.int .u64 0)], [AV.v (.int .u64 (Go.bits .or .u64 o (IntKind.wrap .u64 (Int.tmod (Go.bits .or .u64 a b / 2 ^ min (Int.toNat i) (IntKind.bits .u64)) 2 * 2 ^ min (Int.toNat i) (IntKind.bits .u64))))), AV.v (.int .u64 om)]])))))))))))))))))))))))))))))))))) (K (Go.Exit.exit 0) (St.mk [AV.v x0, AV.v x1, AV.p 0 0, AV.p 1 0, AV.p 2 0, AV.v (.bool false), AV.p 3 0, AV.v (.int .u64 i), AV.any, AV.any, AV.any, AV.any, AV.any, AV.any, AV.any, AV.any, AV.any, AV.any, AV.any, AV.any, AV.any, AV.any, AV.any, AV.any, AV.any, AV.any, AV.any, AV.any, AV.any, AV.any, AV.any, AV.any, AV.any, AV.any, AV.any, AV.any, AV.any, AV.any, AV.any, AV.any, AV.any, AV.any, AV.any, AV.any, AV.any, AV.any, AV.any, AV.any, AV.any, AV.any, AV.any, AV.any, AV.any, AV.any, AV.any, AV.any, AV.any, AV.any, AV.any, AV.any, AV.any, AV.any, AV.any, AV.any, AV.any, AV.any, AV.any, AV.any, AV.any, AV.any, AV.any] [[AV.v (.int .u64 a), AV.v (.int .u64 am)], [AV.v (.int .u64 b), AV.v (.int .u64 bm)], [AV.v (.int .u64 0), AV.v (.int .u64 0)], [AV.v (.int .u64 o), AV.v (.int .u64 om)]]))) := by kernel_rfl
end Go.Proofs.YtceclodenhgoeaaGreat.Zr
end
section
/- Layer 5, against the reference: the loop of ref04.ToT. -/
namespace Go.Proofs.YtceclodenhgoeaaGreat.Zy
open Go Go.RowKit Go.Proofs Go.Proofs.YtceclodenhgoeaaGreat.Xc Go.Proofs.YtceclodenhgoeaaGreat.Zs Go.Proofs.YtceclodenhgoeaaGreat.Zr Go.Proofs.YtceclodenhgoeaaGreat.Zu Go.Proofs.YtceclodenhgoeaaGreat.Zv Go.Proofs.YtceclodenhgoeaaGreat.Bv
set_option linter.unusedVariables false
set_option linter.unusedSimpArgs false
/-- The least number of bits above which both are the same. -/
structure KP (c d : Int) (k : Nat) : Prop where
  le : k ≤ 64
  eq : c / 2 ^ k = d / 2 ^ k
  ne : ∀ i, i < k → c / 2 ^ i ≠ d / 2 ^ i
theorem tal : TabOk Tryz.prog TAl := by
  refine tab_runK good (by kernel_rfl) (fun vs K h => ?_) tab_nil
  split at h
  · have o : nUAll K := by rw [nUAll_eq]; exact h
    unfold nUAll at o; exact ⟨[], EEz, true, 90, tab_nil, eez, o⟩
  · exact h.elim
theorem loopT (x0 : Value) (c d : Int) (hc : u6 c) (hd : u6 d) : ∃ e s', (∃ k, KP c d k ∧ e = .exit 0 ∧ s' = ST x0 c d (2 ^ k - 1)) ∧ LW Tryz.prog bodyT (ST x0 c d 0) e s' := by
  have key := loop_ix (P := Tryz.prog) (c := bodyT) (fun j : Nat => ST x0 c d (2 ^ j - 1)) (fun j => j ≤ 64 ∧ ∀ i, i < j → c / 2 ^ i ≠ d / 2 ^ i) (fun j => 64 - j) (fun j e s' => ∃ k, KP c d k ∧ e = .exit 0 ∧ s' = ST x0 c d (2 ^ k - 1)) ?_ 0 ⟨by omega, fun i h => by omega⟩
  · exact key
  · intro j ⟨hj, hne⟩
    refine rndL_sound (gm := true) (Lt := []) (f := 90) (ks := [0, 1, 2, 3]) (n := 2) good tal eez lok_nil (by kernel_rfl) ?_
    have hp : (0 : Int) < 2 ^ j := Int.pow_pos (by decide)
    have hn : ∀ z, u6 z → 0 ≤ z % 2 ^ j ∧ z % 2 ^ j ≤ z := fun z hz => ⟨Int.emod_nonneg _ (by omega), by
      have e := Int.mul_ediv_add_emod z (2 ^ j)
      have := Int.mul_nonneg (Int.le_of_lt hp) (Int.ediv_nonneg hz.1 (Int.le_of_lt hp))
      omega⟩
    have fin : ∀ Q, nRt x0 c d (2 ^ j - 1) Q → rndL Tryz.prog TAl EEz true [] 90 [0, 1, 2, 3] 2 bodyT (ST x0 c d (2 ^ j - 1)) Q := fun Q h => by unfold nRt at h; exact h
    refine fin _ ?_
    rw [nRt_eq]
    have small : j < 64 → (2 : Int) ^ j ≤ 9223372036854775808 := fun h => by
      have a : (2 : Int) ^ j = ((2 ^ j : Nat) : Int) := by simp
      have b : 2 ^ j ≤ 2 ^ 63 := Nat.pow_le_pow_right (by decide) (by omega)
      rw [a]; omega
    have big : ¬ j < 64 → (2 : Int) ^ j = 18446744073709551616 := fun h => by
      obtain rfl : j = 64 := by omega
      decide
    have lt : (2 : Int) ^ j - 1 < 18446744073709551615 → j < 64 := fun h => Classical.byContradiction fun h2 => by have := big h2; omega
    have wn : j < 64 → IntKind.wrap .u64 (2 ^ j - 1 + 1) = 2 ^ j := fun h => by rw [uW]; have := small h; omega
    have hz : decide ((2 : Int) ^ j - 1 < 18446744073709551615) = true → (IntKind.wrap .u64 (2 ^ j - 1 + 1) != 0) = true := fun h => by
      rw [wn (lt (of_decide_eq_true h))]; simpa using (by omega : ¬ (2 : Int) ^ j = 0)
    repeat (first | with_reducible refine ob_self ?_ | with_reducible refine ob_true ?_ | with_reducible refine ob_mk hz ?_)
    refine fun r hr => br_cases (fun q => ?_) (fun q => ?_)
    · have hB : decide ((2 : Int) ^ j - 1 < 18446744073709551615) = true := by
        cases hb : decide ((2 : Int) ^ j - 1 < 18446744073709551615) with
        | true => rfl
        | false => rw [hb] at hr; rw [hr] at q; cases q
      have hj2 := lt (of_decide_eq_true hB)
      rw [hB, wn hj2, Int.tmod_eq_emod_of_nonneg hc.1, Int.tmod_eq_emod_of_nonneg hd.1] at hr
      have h1 := hn c hc; have h2 := hn d hd
      have e1 := Int.mul_ediv_add_emod c (2 ^ j)
      have e2 := Int.mul_ediv_add_emod d (2 ^ j)
      have hne2 : c / 2 ^ j ≠ d / 2 ^ j := fun e => by
        rw [e] at e1
        have : c - c % 2 ^ j = d - d % 2 ^ j := by omega
        rw [this] at hr
        rw [hr] at q; simp at q
      refine Or.inr ⟨rfl, j + 1, ?_, ⟨by omega, fun i hi => ?_⟩, by omega, fun _ _ h => h⟩
      · have e : IntKind.wrap .u64 (IntKind.wrap .u64 (2 * (2 ^ j - 1)) + 1) = 2 ^ (j + 1) - 1 := by
          have := small hj2
          rw [uW, uW, Int.pow_succ]; omega
        rw [e]; rfl
      · by_cases hij : i = j
        · subst hij; exact hne2
        · exact hne i (by omega)
    · refine Or.inl ⟨by simp, j, ⟨hj, ?_, hne⟩, rfl, rfl⟩
      by_cases hj2 : j < 64
      · have hB : decide ((2 : Int) ^ j - 1 < 18446744073709551615) = true := decide_eq_true (by have := small hj2; omega)
        rw [hB, wn hj2, Int.tmod_eq_emod_of_nonneg hc.1, Int.tmod_eq_emod_of_nonneg hd.1, uW, uW] at hr
        have h1 := hn c hc; have h2 := hn d hd
        have e1 := Int.mul_ediv_add_emod c (2 ^ j)
        have e2 := Int.mul_ediv_add_emod d (2 ^ j)
        rw [hr] at q
        have q : (c - c % 2 ^ j) % 18446744073709551616 = (d - d % 2 ^ j) % 18446744073709551616 := by simpa using q
        have hc' := hc; have hd' := hd
        unfold u6 at hc' hd'
        have q2 : 2 ^ j * (c / 2 ^ j) = 2 ^ j * (d / 2 ^ j) := by omega
        exact Int.eq_of_mul_eq_mul_left (by omega) q2
      · rw [big hj2]
        unfold u6 at hc hd
        omega
end Go.Proofs.YtceclodenhgoeaaGreat.Zy
end
section
/- Layer 5, against the reference: ref04.ToT and span.ToT, run. -/
namespace Go.Proofs.YtceclodenhgoeaaGreat.Zo
open Go Go.RowKit Go.Proofs Go.Proofs.YtceclodenhgoeaaGreat.Xc Go.Proofs.YtceclodenhgoeaaGreat.Zs Go.Proofs.YtceclodenhgoeaaGreat.Zr Go.Proofs.YtceclodenhgoeaaGreat.Zu Go.Proofs.YtceclodenhgoeaaGreat.Zy
set_option maxRecDepth 100000
set_option linter.unusedVariables false
abbrev T2 (a b : Int) : Value := .agg #[.int .u64 a, .int .u64 b]
def pw (k : Nat) : Int := 2 ^ k - 1
def FT (s : St) (K : Exit → St → Prop) : Prop := match s with
  | ⟨.v x0 :: t, [[.v (.int .u64 c), .v (.int .u64 d)], r]⟩ => need (keep [0, 1, 2, 3] 100 ⟨.v x0 :: t, [[.v (.int .u64 c), .v (.int .u64 d)], r]⟩ = ST x0 c d 0) (need (u6 c ∧ u6 d) (al fun k => im (KP c d k) (K (.exit 0) (ST x0 c d (pw k)))))
  | _ => False
noncomputable def LtT : Loops := [(0, blk Tryz.prog 168 0, FT)]
def nRTT (c d : Int) (K : Value → Prop) : Prop := runL Tryz.prog TAl EEz true LtT 90 168 [T2 c d] K
theorem nRTT_eq (c d : Int) (K : Value → Prop) : nRTT c d K = (same (blk Go.Proofs.Tryz.prog 168 0) (blk Go.Proofs.Tryz.prog 168 0) (need (St.mk [AV.v (.agg (#[.int .u64 c, .int .u64 d])), AV.p 0 0, AV.p 1 0, AV.v (.int .u64 0), AV.any, AV.any, AV.any, AV.any, AV.any, AV.any, AV.any, AV.any, AV.any, AV.any, AV.any, AV.any, AV.any, AV.any, AV.any, AV.any, AV.any, AV.any, AV.any, AV.any, AV.any, AV.any, AV.any, AV.any, AV.any, AV.any, AV.any, AV.any, AV.any, AV.any, AV.any, AV.any, AV.any, AV.any, AV.any, AV.any, AV.any, AV.any, AV.any, AV.any, AV.any, AV.any] [[AV.v (.int .u64 c), AV.v (.int .u64 d)], [AV.v (.int .u64 0), AV.v (.int .u64 0)]] = St.mk [AV.v (.agg (#[.int .u64 c, .int .u64 d])), AV.p 0 0, AV.p 1 0, AV.v (.int .u64 0), AV.any, AV.any, AV.any, AV.any, AV.any, AV.any, AV.any, AV.any, AV.any, AV.any, AV.any, AV.any, AV.any, AV.any, AV.any, AV.any, AV.any, AV.any, AV.any, AV.any, AV.any, AV.any, AV.any, AV.any, AV.any, AV.any, AV.any, AV.any, AV.any, AV.any, AV.any, AV.any, AV.any, AV.any, AV.any, AV.any, AV.any, AV.any, AV.any, AV.any, AV.any, AV.any] [[AV.v (.int .u64 c), AV.v (.int .u64 d)], [AV.v (.int .u64 0), AV.v (.int .u64 0)]]) (need (Zu.u6 c ∧ Zu.u6 d) (al fun x => im (Zy.KP c d x) (br (Zo.pw x == 18446744073709551615) (K (.agg (#[.int .u64 0, .int .u64 (Zo.pw x)]))) (ob true (IntKind.wrap .u64 (Zo.pw x + 1) != 0) (K (.agg (#[.int .u64 (IntKind.wrap .u64 (c - Int.tmod c (IntKind.wrap .u64 (Zo.pw x + 1)))), .int .u64 (Zo.pw x)]))))))))) := by kernel_rfl
end Go.Proofs.YtceclodenhgoeaaGreat.Zo
end
section
/- Layer 5, against the reference: what ref04.ToT comes to. -/
namespace Go.Proofs.YtceclodenhgoeaaGreat.Zp
open Go Go.RowKit Go.Proofs Go.Proofs.YtceclodenhgoeaaGreat.Xc Go.Proofs.YtceclodenhgoeaaGreat.Zs Go.Proofs.YtceclodenhgoeaaGreat.Zr Go.Proofs.YtceclodenhgoeaaGreat.Zu Go.Proofs.YtceclodenhgoeaaGreat.Zv Go.Proofs.YtceclodenhgoeaaGreat.Zy Go.Proofs.YtceclodenhgoeaaGreat.Zo Go.Proofs.YtceclodenhgoeaaGreat.Bv
set_option linter.unusedVariables false
set_option linter.unusedSimpArgs false
theorem blkT : blk Tryz.prog 168 0 = .loop bodyT := by kernel_rfl
theorem okST (x0 : Value) (c d n : Int) : okSt (ST x0 c d n) = true := by kernel_rfl
theorem lokT : LOk Tryz.prog LtT := by
  refine lok_one fun s K hF => ?_
  unfold FT at hF
  split at hF
  · rename_i x0 t c d r
    obtain ⟨hs, ⟨hc, hd⟩, hK⟩ := hF
    obtain ⟨e, s', ⟨k, hk, rfl, rfl⟩, hl⟩ := loopT x0 c d hc hd
    refine ⟨_, _, hK k hk, ?_⟩
    rw [blkT]
    refine keep_pre (ks := [0, 1, 2, 3]) (n := 100) (show 2 ≤ 100 by decide) (by rw [hs]; exact okST _ _ _ _) ?_
    rw [hs]
    exact lw_of hl
  · exact hF.elim
/-- ToT, exactly. -/
theorem rRTT (c d : Int) (K : Value → Prop) (hc : u6 c) (hd : u6 d) (h : ∀ k, KP c d k → K (T2 (c - c % 2 ^ k) (2 ^ k - 1))) : nRTT c d K := by
  rw [nRTT_eq]
  refine ⟨rfl, rfl, ⟨hc, hd⟩, fun k hk => ?_⟩
  have hk64 := hk.le
  have small : k < 64 → (2 : Int) ^ k ≤ 9223372036854775808 := fun h => by
    have a : (2 : Int) ^ k = ((2 ^ k : Nat) : Int) := by simp
    have b : 2 ^ k ≤ 2 ^ 63 := Nat.pow_le_pow_right (by decide) (by omega)
    rw [a]; omega
  have big : ¬ k < 64 → (2 : Int) ^ k = 18446744073709551616 := fun h => by
    obtain rfl : k = 64 := by omega
    decide
  have hp : (0 : Int) < 2 ^ k := Int.pow_pos (by decide)
  have h := h k hk
  unfold pw
  refine br_cases (fun q => ?_) (fun q => ?_)
  · have q : (2 : Int) ^ k - 1 = 18446744073709551615 := by simpa using q
    have e : c - c % 2 ^ k = 0 := by rw [show (2 : Int) ^ k = 18446744073709551616 by omega]; unfold u6 at hc; omega
    rw [e] at h; exact h
  · have q : ¬ (2 : Int) ^ k - 1 = 18446744073709551615 := by simpa using q
    have hk2 : k < 64 := Classical.byContradiction fun h2 => q (by rw [big h2]; omega)
    have e : IntKind.wrap .u64 (2 ^ k - 1 + 1) = 2 ^ k := by rw [uW]; have := small hk2; omega
    rw [e, Int.tmod_eq_emod_of_nonneg hc.1]
    have e1 := Int.mul_ediv_add_emod c (2 ^ k)
    have e2 := Int.mul_nonneg (Int.le_of_lt hp) (Int.ediv_nonneg hc.1 (Int.le_of_lt hp))
    have e3 : IntKind.wrap .u64 (c - c % 2 ^ k) = c - c % 2 ^ k := by
      have := Int.emod_nonneg c (show (2 : Int) ^ k ≠ 0 by omega)
      rw [uW]; unfold u6 at hc; omega
    rw [e3]
    exact ob_mk (fun _ => by simpa using (by omega : ¬ (2 : Int) ^ k = 0)) h
end Go.Proofs.YtceclodenhgoeaaGreat.Zp
end
section
/- Layer 5, against the reference: the plain parts of Norm, on both sides, run. -/
namespace Go.Proofs.YtceclodenhgoeaaGreat.Zq
open Go Go.RowKit Go.Proofs Go.Proofs.YtceclodenhgoeaaGreat.Xc Go.Proofs.YtceclodenhgoeaaGreat.Zs Go.Proofs.YtceclodenhgoeaaGreat.Zo
set_option maxRecDepth 100000
set_option linter.unusedVariables false
abbrev S2 (a b : Int) : Value := .agg #[.int .i64 a, .int .i64 b]
def nUMeet1 (a b c d : Int) (K : Value → Prop) : Prop := run Tryz.prog [] EEz true 90 47 [T2 a b, T2 c d] K
theorem nUMeet1_eq (a b c d : Int) (K : Value → Prop) : nUMeet1 a b c d K = (br (!decide ((if c > a then c else a) ≤ if d < b then d else b)) (K (.tuple (#[.agg (#[.int .u64 0, .int .u64 0]), .bool false]))) (K (.tuple (#[.agg (#[.int .u64 (if c > a then c else a), .int .u64 (if d < b then d else b)]), .bool true])))) := by kernel_rfl
def nUMeet2 (a b c d : Int) (K : Value → Prop) : Prop := run Tryz.prog [] EEz true 90 163 [T2 a b, T2 c d] K
theorem nUMeet2_eq (a b c d : Int) (K : Value → Prop) : nUMeet2 a b c d K = (br (decide (c > a)) (br (decide (d < b)) (br (decide (c > d)) (K (.tuple (#[.agg (#[.int .u64 0, .int .u64 0]), .bool false]))) (K (.tuple (#[.agg (#[.int .u64 c, .int .u64 d]), .bool true])))) (br (decide (c > b)) (K (.tuple (#[.agg (#[.int .u64 0, .int .u64 0]), .bool false]))) (K (.tuple (#[.agg (#[.int .u64 c, .int .u64 b]), .bool true]))))) (br (decide (d < b)) (br (decide (a > d)) (K (.tuple (#[.agg (#[.int .u64 0, .int .u64 0]), .bool false]))) (K (.tuple (#[.agg (#[.int .u64 a, .int .u64 d]), .bool true])))) (br (decide (a > b)) (K (.tuple (#[.agg (#[.int .u64 0, .int .u64 0]), .bool false]))) (K (.tuple (#[.agg (#[.int .u64 a, .int .u64 b]), .bool true])))))) := by kernel_rfl
def nSMeet1 (a b c d : Int) (K : Value → Prop) : Prop := run Tryz.prog [] EEz true 90 51 [S2 a b, S2 c d] K
theorem nSMeet1_eq (a b c d : Int) (K : Value → Prop) : nSMeet1 a b c d K = (br (!decide ((if c > a then c else a) ≤ if d < b then d else b)) (K (.tuple (#[.agg (#[.int .i64 0, .int .i64 0]), .bool false]))) (K (.tuple (#[.agg (#[.int .i64 (if c > a then c else a), .int .i64 (if d < b then d else b)]), .bool true])))) := by kernel_rfl
def nSMeet2 (a b c d : Int) (K : Value → Prop) : Prop := run Tryz.prog [] EEz true 90 166 [S2 a b, S2 c d] K
theorem nSMeet2_eq (a b c d : Int) (K : Value → Prop) : nSMeet2 a b c d K = (br (decide (c > a)) (br (decide (d < b)) (br (decide (c > d)) (K (.tuple (#[.agg (#[.int .i64 0, .int .i64 0]), .bool false]))) (K (.tuple (#[.agg (#[.int .i64 c, .int .i64 d]), .bool true])))) (br (decide (c > b)) (K (.tuple (#[.agg (#[.int .i64 0, .int .i64 0]), .bool false]))) (K (.tuple (#[.agg (#[.int .i64 c, .int .i64 b]), .bool true]))))) (br (decide (d < b)) (br (decide (a > d)) (K (.tuple (#[.agg (#[.int .i64 0, .int .i64 0]), .bool false]))) (K (.tuple (#[.agg (#[.int .i64 a, .int .i64 d]), .bool true])))) (br (decide (a > b)) (K (.tuple (#[.agg (#[.int .i64 0, .int .i64 0]), .bool false]))) (K (.tuple (#[.agg (#[.int .i64 a, .int .i64 b]), .bool true])))))) := by kernel_rfl
def nToU1 (a b : Int) (K : Value → Prop) : Prop := run Tryz.prog [] EEz true 90 48 [S2 a b] K
theorem nToU1_eq (a b : Int) (K : Value → Prop) : nToU1 a b K = (br (!decide (a < 0) == decide (b < 0)) (K (.agg (#[.int .u64 0, .int .u64 18446744073709551615]))) (K (.agg (#[.int .u64 (IntKind.wrap .u64 a), .int .u64 (IntKind.wrap .u64 b)])))) := by kernel_rfl
def nToU2 (a b : Int) (K : Value → Prop) : Prop := run Tryz.prog [] EEz true 90 164 [S2 a b] K
theorem nToU2_eq (a b : Int) (K : Value → Prop) : nToU2 a b K = (ob (decide (a < 0)) (decide (a < 0)) (ob (decide (a < 0)) (decide (a < 0)) (ob (decide (a < 0)) (decide (a < 0)) (ob (!decide (a < 0)) true (nm (bif decide (a < 0) then decide (b ≥ 0) else false) fun r => br r (K (.agg (#[.int .u64 0, .int .u64 18446744073709551615]))) (K (.agg (#[.int .u64 (IntKind.wrap .u64 a), .int .u64 (IntKind.wrap .u64 b)])))))))) := by kernel_rfl
def nToS1 (a b : Int) (K : Value → Prop) : Prop := run Tryz.prog [] EEz true 90 52 [T2 a b] K
theorem nToS1_eq (a b : Int) (K : Value → Prop) : nToS1 a b K = (ob true true (ob true true (br (a / 2 ^ min (Int.toNat 63) (IntKind.bits .u64) != b / 2 ^ min (Int.toNat 63) (IntKind.bits .u64)) (K (.agg (#[.int .i64 (-9223372036854775808), .int .i64 9223372036854775807]))) (K (.agg (#[.int .i64 (IntKind.wrap .i64 a), .int .i64 (IntKind.wrap .i64 b)])))))) := by kernel_rfl
def nToS2 (a b : Int) (K : Value → Prop) : Prop := run Tryz.prog [] EEz true 90 167 [T2 a b] K
theorem nToS2_eq (a b : Int) (K : Value → Prop) : nToS2 a b K = (br (!decide (a < 9223372036854775808) == decide (b < 9223372036854775808)) (K (.agg (#[.int .i64 (-9223372036854775808), .int .i64 9223372036854775807]))) (K (.agg (#[.int .i64 (IntKind.wrap .i64 a), .int .i64 (IntKind.wrap .i64 b)])))) := by kernel_rfl
def nFromT1 (a b : Int) (K : Value → Prop) : Prop := run Tryz.prog [] EEz true 90 45 [T2 a b] K
theorem nFromT1_eq (a b : Int) (K : Value → Prop) : nFromT1 a b K = (br (Go.bits .and .u64 b 9223372036854775808 == 0) (K (.tuple (#[.agg (#[.int .u64 a, .int .u64 (Go.bits .or .u64 a b)]), .agg (#[.int .i64 (IntKind.wrap .i64 a), .int .i64 (IntKind.wrap .i64 (Go.bits .or .u64 a b))])]))) (K (.tuple (#[.agg (#[.int .u64 a, .int .u64 (Go.bits .or .u64 a b)]), .agg (#[.int .i64 (IntKind.wrap .i64 (Go.bits .or .u64 a 9223372036854775808)), .int .i64 (IntKind.wrap .i64 (Go.bits .or .u64 a (Go.bits .andNot .u64 b 9223372036854775808)))])])))) := by kernel_rfl
def nFromT2 (a b : Int) (K : Value → Prop) : Prop := run Tryz.prog [] EEz true 90 165 [T2 a b] K
theorem nFromT2_eq (a b : Int) (K : Value → Prop) : nFromT2 a b K = (br (decide (b < 9223372036854775808)) (K (.tuple (#[.agg (#[.int .u64 a, .int .u64 (IntKind.wrap .u64 (a + b))]), .agg (#[.int .i64 (IntKind.wrap .i64 a), .int .i64 (IntKind.wrap .i64 (IntKind.wrap .u64 (a + b)))])]))) (K (.tuple (#[.agg (#[.int .u64 a, .int .u64 (IntKind.wrap .u64 (a + b))]), .agg (#[.int .i64 (IntKind.wrap .i64 (IntKind.wrap .u64 (a + 9223372036854775808))), .int .i64 (IntKind.wrap .i64 (IntKind.wrap .u64 (a + IntKind.wrap .u64 (b - 9223372036854775808))))])])))) := by kernel_rfl
end Go.Proofs.YtceclodenhgoeaaGreat.Zq
end
section
/- Layer 5, against the reference: the plain parts of Norm are the same on both sides. -/
namespace Go.Proofs.YtceclodenhgoeaaGreat.Zqa
open Go Go.RowKit Go.Proofs Go.Proofs.YtceclodenhgoeaaGreat.Xc Go.Proofs.YtceclodenhgoeaaGreat.Zs Go.Proofs.YtceclodenhgoeaaGreat.Zo Go.Proofs.YtceclodenhgoeaaGreat.Zq Go.Proofs.YtceclodenhgoeaaGreat.Bv
set_option linter.unusedVariables false
set_option linter.unusedSimpArgs false
/-- What both have. -/
def mk2 (k : IntKind) (K : Value → Prop) (a b c d : Int) : Prop := if max a c ≤ min b d then K (.tuple #[.agg #[.int k (max a c), .int k (min b d)], .bool true]) else K (.tuple #[.agg #[.int k 0, .int k 0], .bool false])
theorem m_yes {k : IntKind} {K : Value → Prop} {a b c d x y : Int} (h : mk2 k K a b c d) (h1 : max a c ≤ min b d) (e1 : x = max a c) (e2 : y = min b d) : K (.tuple #[.agg #[.int k x, .int k y], .bool true]) := by
  unfold mk2 at h; rw [if_pos h1] at h; rw [e1, e2]; exact h
theorem m_no {k : IntKind} {K : Value → Prop} {a b c d : Int} (h : mk2 k K a b c d) (h1 : ¬ max a c ≤ min b d) : K (.tuple #[.agg #[.int k 0, .int k 0], .bool false]) := by
  unfold mk2 at h; rw [if_neg h1] at h; exact h
theorem rU1 (a b c d : Int) (K : Value → Prop) (h : mk2 .u64 K a b c d) : nUMeet1 a b c d K := by
  rw [nUMeet1_eq]
  have e1 : (if c > a then c else a) = max a c := by split <;> omega
  have e2 : (if d < b then d else b) = min b d := by split <;> omega
  rw [e1, e2]
  refine br_cases (fun q => m_no h ?_) (fun q => m_yes h ?_ rfl rfl)
  · simpa using q
  · simpa using q
theorem rS1 (a b c d : Int) (K : Value → Prop) (h : mk2 .i64 K a b c d) : nSMeet1 a b c d K := by
  rw [nSMeet1_eq]
  have e1 : (if c > a then c else a) = max a c := by split <;> omega
  have e2 : (if d < b then d else b) = min b d := by split <;> omega
  rw [e1, e2]
  refine br_cases (fun q => m_no h ?_) (fun q => m_yes h ?_ rfl rfl)
  · simpa using q
  · simpa using q
theorem rU2 (a b c d : Int) (K : Value → Prop) (h : mk2 .u64 K a b c d) : nUMeet2 a b c d K := by
  rw [nUMeet2_eq]
  refine br_cases (fun q1 => ?_) (fun q1 => ?_) <;> refine br_cases (fun q2 => ?_) (fun q2 => ?_) <;> refine br_cases (fun q3 => m_no h ?_) (fun q3 => m_yes h ?_ ?_ ?_)
  all_goals (first | have q1 := of_decide_eq_true q1 | have q1 := of_decide_eq_false q1)
  all_goals (first | have q2 := of_decide_eq_true q2 | have q2 := of_decide_eq_false q2)
  all_goals (first | have q3 := of_decide_eq_true q3 | have q3 := of_decide_eq_false q3)
  all_goals omega
theorem rS2 (a b c d : Int) (K : Value → Prop) (h : mk2 .i64 K a b c d) : nSMeet2 a b c d K := by
  rw [nSMeet2_eq]
  refine br_cases (fun q1 => ?_) (fun q1 => ?_) <;> refine br_cases (fun q2 => ?_) (fun q2 => ?_) <;> refine br_cases (fun q3 => m_no h ?_) (fun q3 => m_yes h ?_ ?_ ?_)
  all_goals (first | have q1 := of_decide_eq_true q1 | have q1 := of_decide_eq_false q1)
  all_goals (first | have q2 := of_decide_eq_true q2 | have q2 := of_decide_eq_false q2)
  all_goals (first | have q3 := of_decide_eq_true q3 | have q3 := of_decide_eq_false q3)
  all_goals omega
end Go.Proofs.YtceclodenhgoeaaGreat.Zqa
end
section
/- Layer 5, against the reference: ToU and ToS are the same on both sides. -/
namespace Go.Proofs.YtceclodenhgoeaaGreat.Zqb
open Go Go.RowKit Go.Proofs Go.Proofs.YtceclodenhgoeaaGreat.Xc Go.Proofs.YtceclodenhgoeaaGreat.Zs Go.Proofs.YtceclodenhgoeaaGreat.Zu Go.Proofs.YtceclodenhgoeaaGreat.Zv Go.Proofs.YtceclodenhgoeaaGreat.Zo Go.Proofs.YtceclodenhgoeaaGreat.Zq Go.Proofs.YtceclodenhgoeaaGreat.Bv
set_option linter.unusedVariables false
set_option linter.unusedSimpArgs false
def mkU (K : Value → Prop) (a b : Int) : Prop := if a < 0 ∧ 0 ≤ b then K (.agg #[.int .u64 0, .int .u64 18446744073709551615]) else K (.agg #[.int .u64 (IntKind.wrap .u64 a), .int .u64 (IntKind.wrap .u64 b)])
def mkS (K : Value → Prop) (a b : Int) : Prop := if a < 9223372036854775808 ∧ 9223372036854775808 ≤ b then K (.agg #[.int .i64 (-9223372036854775808), .int .i64 9223372036854775807]) else K (.agg #[.int .i64 (IntKind.wrap .i64 a), .int .i64 (IntKind.wrap .i64 b)])
theorem if_yes {p : Prop} [Decidable p] {A B : Prop} (h : if p then A else B) (hp : p) : A := by rw [if_pos hp] at h; exact h
theorem if_no {p : Prop} [Decidable p] {A B : Prop} (h : if p then A else B) (hp : ¬ p) : B := by rw [if_neg hp] at h; exact h
theorem rToU1 (a b : Int) (K : Value → Prop) (hab : a ≤ b) (h : mkU K a b) : nToU1 a b K := by
  rw [nToU1_eq]
  refine br_cases (fun q => if_yes h ?_) (fun q => if_no h ?_)
  · by_cases h1 : a < 0 <;> by_cases h2 : b < 0 <;> simp [h1, h2] at q <;> omega
  · by_cases h1 : a < 0 <;> by_cases h2 : b < 0 <;> simp [h1, h2] at q <;> omega
theorem rToU2 (a b : Int) (K : Value → Prop) (h : mkU K a b) : nToU2 a b K := by
  rw [nToU2_eq]
  repeat (first | with_reducible refine ob_self ?_ | with_reducible refine ob_true ?_)
  refine fun r hr => br_cases (fun q => if_yes h ?_) (fun q => if_no h ?_)
  · subst hr
    by_cases h1 : a < 0 <;> by_cases h2 : b < 0 <;> simp [h1, h2] at q <;> omega
  · subst hr
    by_cases h1 : a < 0 <;> by_cases h2 : b < 0 <;> simp [h1, h2] at q <;> omega
theorem rToS1 (a b : Int) (K : Value → Prop) (ha : u6 a) (hb : u6 b) (hab : a ≤ b) (h : mkS K a b) : nToS1 a b K := by
  rw [nToS1_eq]
  have e : ∀ z : Int, z / 2 ^ min (Int.toNat 63) (IntKind.bits .u64) = z / 9223372036854775808 := fun _ => rfl
  rw [e, e]
  unfold u6 at ha hb
  refine ob_self (ob_self (br_cases (fun q => if_yes h ?_) (fun q => if_no h ?_)))
  · have q : ¬ a / 9223372036854775808 = b / 9223372036854775808 := by simpa using q
    omega
  · have q : a / 9223372036854775808 = b / 9223372036854775808 := by simpa using q
    omega
theorem rToS2 (a b : Int) (K : Value → Prop) (hab : a ≤ b) (h : mkS K a b) : nToS2 a b K := by
  rw [nToS2_eq]
  refine br_cases (fun q => if_yes h ?_) (fun q => if_no h ?_)
  · by_cases h1 : a < 9223372036854775808 <;> by_cases h2 : b < 9223372036854775808 <;> simp [h1, h2] at q <;> omega
  · by_cases h1 : a < 9223372036854775808 <;> by_cases h2 : b < 9223372036854775808 <;> simp [h1, h2] at q <;> omega
end Go.Proofs.YtceclodenhgoeaaGreat.Zqb
end
section
/- Layer 5, against the reference: FromT is the same on both sides. -/
namespace Go.Proofs.YtceclodenhgoeaaGreat.Zqc
open Go Go.RowKit Go.Proofs Go.Proofs.YtceclodenhgoeaaGreat.Xc Go.Proofs.YtceclodenhgoeaaGreat.Zs Go.Proofs.YtceclodenhgoeaaGreat.Zu Go.Proofs.YtceclodenhgoeaaGreat.Zv Go.Proofs.YtceclodenhgoeaaGreat.Zo Go.Proofs.YtceclodenhgoeaaGreat.Zq Go.Proofs.YtceclodenhgoeaaGreat.Bv
set_option linter.unusedVariables false
set_option linter.unusedSimpArgs false
theorem or_plus {A B : W} (h : A &&& B = 0#64) : Go.bits .or .u64 (U A) (U B) = IntKind.wrap .u64 (U A + U B) := by
  rw [b_or, ofInt_U, ofInt_U, wrap_u64, oi_add, ofInt_U, ofInt_U, BitVec.add_eq_or_of_and_eq_zero _ _ h]
theorem top_iff (B : W) : Go.bits .and .u64 (U B) 9223372036854775808 = 0 ↔ U B < 9223372036854775808 := by
  have h1 := BitVec.msb_eq_decide B
  have h2 := BitVec.msb_eq_getLsbD_last B
  rw [h1] at h2
  have hH : ∀ i, i < 64 → (BitVec.ofInt 64 9223372036854775808).getLsbD i = decide (i = 63) := by decide
  rw [b_and, ofInt_U, show (0 : Int) = U 0#64 from rfl, U_inj]
  constructor
  · intro h
    have := congrArg (fun w : W => w.getLsbD 63) h
    simp only [BitVec.getLsbD_and, hH 63 (by decide)] at this
    simp at this
    rw [show B.getLsbD (64 - 1) = B.getLsbD 63 from rfl] at h2
    unfold U
    simp [this] at h2
    omega
  · intro h
    have hb : B.getLsbD 63 = false := by
      rw [show B.getLsbD (64 - 1) = B.getLsbD 63 from rfl] at h2
      rw [← h2]; unfold U at h; simp; omega
    apply BitVec.eq_of_getLsbD_eq; intro i hi
    rw [BitVec.getLsbD_and, hH i hi]
    by_cases h63 : i = 63
    · subst h63; rw [hb]; simp
    · simp [h63]
/-- FromT of both sides, by the words of the reference. -/
theorem rFromT (A B : W) (K : Value → Prop) (hAB : A &&& B = 0#64) (h : nFromT2 (U A) (U B) K) : nFromT1 (U A) (U B) K := by
  rw [nFromT2_eq] at h
  rw [nFromT1_eq]
  have e1 := or_plus hAB
  have hH : ∀ i, i < 64 → (BitVec.ofInt 64 9223372036854775808).getLsbD i = decide (i = 63) := by decide
  refine br_cases (fun q => ?_) (fun q => ?_)
  · have q : Go.bits .and .u64 (U B) 9223372036854775808 = 0 := by simpa using q
    have q2 := (top_iff B).1 q
    rw [decide_eq_true q2] at h
    rw [e1]; exact h
  · have q : ¬ Go.bits .and .u64 (U B) 9223372036854775808 = 0 := by simpa using q
    have q2 : ¬ U B < 9223372036854775808 := fun k => q ((top_iff B).2 k)
    rw [decide_eq_false q2] at h
    have hB : B.getLsbD 63 = true := by
      have h1 := BitVec.msb_eq_decide B
      have h2 := BitVec.msb_eq_getLsbD_last B
      rw [h1, show B.getLsbD (64 - 1) = B.getLsbD 63 from rfl] at h2
      rw [← h2]; unfold U at q2; simp; omega
    have hA : A.getLsbD 63 = false := by
      have := congrArg (fun w : W => w.getLsbD 63) hAB
      simp only [BitVec.getLsbD_and, hB] at this
      simpa using this
    have z1 : A &&& BitVec.ofInt 64 9223372036854775808 = 0#64 := by
      apply BitVec.eq_of_getLsbD_eq; intro i hi
      rw [BitVec.getLsbD_and, hH i hi]
      by_cases h63 : i = 63
      · subst h63; rw [hA]; simp
      · simp [h63]
    have z2 : A &&& (B &&& ~~~ BitVec.ofInt 64 9223372036854775808) = 0#64 := by
      rw [← BitVec.and_assoc, hAB]; simp
    have u1 : U (BitVec.ofInt 64 9223372036854775808) = 9223372036854775808 := by decide
    have e2 := or_plus z1
    rw [u1] at e2
    have e3 := or_plus z2
    have e4 : Go.bits .andNot .u64 (U B) 9223372036854775808 = U (B &&& ~~~ BitVec.ofInt 64 9223372036854775808) := by rw [b_andNot, ofInt_U]
    have e5 : U (B &&& ~~~ BitVec.ofInt 64 9223372036854775808) = IntKind.wrap .u64 (U B - 9223372036854775808) := by
      have s : B = (B &&& ~~~ BitVec.ofInt 64 9223372036854775808) + BitVec.ofInt 64 9223372036854775808 := by
        rw [BitVec.add_eq_or_of_and_eq_zero _ _ (by
          apply BitVec.eq_of_getLsbD_eq; intro i hi
          simp only [BitVec.getLsbD_and, BitVec.getLsbD_not, hH i hi, hi]
          cases decide (i = 63) <;> simp)]
        apply BitVec.eq_of_getLsbD_eq; intro i hi
        simp only [BitVec.getLsbD_or, BitVec.getLsbD_and, BitVec.getLsbD_not, hH i hi, hi]
        by_cases h63 : i = 63
        · subst h63; rw [hB]; simp
        · simp [h63]
      rw [wrap_u64, oi_sub, ofInt_U]
      congr 1
      generalize B &&& ~~~ BitVec.ofInt 64 9223372036854775808 = Z at *
      rw [s]; grind
    rw [e1, e2, e4, e3, e5]
    exact h
end Go.Proofs.YtceclodenhgoeaaGreat.Zqc
end
