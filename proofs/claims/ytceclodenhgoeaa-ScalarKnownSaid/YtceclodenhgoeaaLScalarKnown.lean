/- Without Go: ScUo, ScUoa, ScUob, ScUoc, ScUod, ScUp, ScUn, ScUq, LScalarKnown, in one text. -/
import Derived.Test.YtceclodenhgoeaaScUm
import Derived.Test.YtceclodenhgoeaaScE
set_option linter.unusedVariables false
set_option linter.unusedSimpArgs false
set_option linter.unusedSectionVars false
section
/- Layer 5: ScalarKnown's innermost loop, run. -/
namespace Go.Proofs.Ytceclodenhgoeaa.ScUo
open Go Go.RowKit Go.Proofs Go.Proofs.Ytceclodenhgoeaa.Xc Go.Proofs.Ytceclodenhgoeaa.Sc Go.Proofs.Ytceclodenhgoeaa.ScG Go.Proofs.Ytceclodenhgoeaa.ScP Go.Proofs.Ytceclodenhgoeaa.ScUe Go.Proofs.Ytceclodenhgoeaa.ScUj Go.Proofs.Ytceclodenhgoeaa.ScV Go.Proofs.Ytceclodenhgoeaa.ScY Go.Proofs.Ytceclodenhgoeaa.ScAd
set_option maxRecDepth 100000
set_option linter.unusedVariables false
def uB (x : Int) : Bool := decide (0 ≤ x) && decide (x < 18446744073709551616)
def sB (x : Int) : Bool := decide (-9223372036854775808 ≤ x) && decide (x < 9223372036854775808)
def gB (a b c d e f : Int) : Bool := uB a && uB b && uB c && uB d && sB e && sB f
def lit6 (a b c d e f p q r s t u : Int) : Prop := a = p ∧ b = q ∧ c = r ∧ d = s ∧ e = t ∧ f = u
noncomputable abbrev TKn : Tab := [
  (14, fun vs K => match vs with
    | [] => K (.bool true)
    | _ => False),
  (3, fun vs K => match vs with
    | [.int .i64 op, .bool wide, .agg ⟨[.int .u64 a, .int .u64 b, .int .u64 c, .int .u64 d, .int .i64 e, .int .i64 f]⟩, .agg ⟨[.int .u64 a', .int .u64 b', .int .u64 c', .int .u64 d', .int .i64 e', .int .i64 f']⟩, .int .u64 v, .int .u64 w] => match gB a b c d e f && gB a' b' c' d' e' f' && uB v && uB w with
      | true => K (.bool true)
      | false => False
    | _ => False),
  (5, fun vs K => match vs with
    | [.int .i64 op, .bool wide, .agg ⟨[.int .u64 a, .int .u64 b, .int .u64 c, .int .u64 d, .int .i64 e, .int .i64 f]⟩, .agg ⟨[.int .u64 a', .int .u64 b', .int .u64 c', .int .u64 d', .int .i64 e', .int .i64 f']⟩, .int .u64 v, .int .u64 w] => match gB a b c d e f && gB a' b' c' d' e' f' && uB v && uB w with
      | true => K (.bool true)
      | false => False
    | _ => False),
  (6, fun vs K => match vs with
    | [.int .i64 op, .bool wide, .int .u64 v, .int .u64 w] => match uB v && uB w with
      | true => K (.bool true)
      | false => False
    | _ => False),
  (24, fun vs K => match vs with
    | [.int .u64 v] => K (Sc v 0 v v (IntKind.i64.wrap v) (IntKind.i64.wrap v))
    | _ => False),
  (17, fun vs K => match vs with
    | [.int .i64 1] => K (Sc 0 255 0 255 0 255)
    | _ => False),
  (25, fun vs K => match vs with
    | [.agg ⟨[.int .u64 a, .int .u64 b, .int .u64 c, .int .u64 d, .int .i64 e, .int .i64 f]⟩] => al fun v => al fun one => im (IsP a b c d e f v one) (K (.tuple #[.int .u64 v, .bool one]))
    | _ => False),
  (10, fun vs K => match vs with
    | [.int .i64 1, .bool true, .bool true, .agg ⟨[.int .u64 a, .int .u64 b, .int .u64 c, .int .u64 d, .int .i64 e, .int .i64 f]⟩, .agg ⟨[.int .u64 a', .int .u64 b', .int .u64 c', .int .u64 d', .int .i64 e', .int .i64 f']⟩] => need (MayS a b c d e f ∧ MayS a' b' c' d' e' f') (al fun p => al fun q => al fun r => al fun s => al fun t => al fun u => al fun p' => al fun q' => al fun r' => al fun s' => al fun t' => al fun u' => al fun ok => im (BrP 1 true true a b c d e f a' b' c' d' e' f' p q r s t u p' q' r' s' t' u' ok) (K (.tuple #[Sc p q r s t u, Sc p' q' r' s' t' u', .bool ok])))
    | [.int .i64 1, .bool true, .bool false, .agg ⟨[.int .u64 a, .int .u64 b, .int .u64 c, .int .u64 d, .int .i64 e, .int .i64 f]⟩, .agg ⟨[.int .u64 a', .int .u64 b', .int .u64 c', .int .u64 d', .int .i64 e', .int .i64 f']⟩] => need (lit6 a b c d e f 0 255 0 255 0 255 ∧ lit6 a' b' c' d' e' f' 0 0 0 0 0 0) (K (.tuple #[Sc 0 255 1 255 1 255, Sc 0 0 0 0 0 0, .bool true]))
    | _ => False),
  (18, fun vs K => match vs with
    | [.int .i64 2, .bool false, .agg ⟨[.int .u64 a, .int .u64 b, .int .u64 c, .int .u64 d, .int .i64 e, .int .i64 f]⟩, .agg ⟨[.int .u64 a', .int .u64 b', .int .u64 c', .int .u64 d', .int .i64 e', .int .i64 f']⟩] => need (MayS a b c d e f ∧ MayS a' b' c' d' e' f') (al fun p => al fun q => al fun r => al fun s => al fun t => al fun u => im (AlP 2 false a b c d e f a' b' c' d' e' f' p q r s t u) (K (Sc p q r s t u)))
    | [.int .i64 5, .bool true, .agg ⟨[.int .u64 a, .int .u64 b, .int .u64 c, .int .u64 d, .int .i64 e, .int .i64 f]⟩, .agg ⟨[.int .u64 a', .int .u64 b', .int .u64 c', .int .u64 d', .int .i64 e', .int .i64 f']⟩] => need (lit6 a b c d e f 0 18446744073709551615 0 18446744073709551615 (-9223372036854775808) 9223372036854775807 ∧ lit6 a' b' c' d' e' f' 255 0 255 255 255 255) (K (Sc 0 255 0 255 0 255))
    | _ => False)]
abbrev rw6 (a b c d e f : Int) : List AV := [.v (.int .u64 a), .v (.int .u64 b), .v (.int .u64 c), .v (.int .u64 d), .v (.int .i64 e), .v (.int .i64 f)]
def SL (z0 z1 z2 z3 z4 z5 y0 y1 y2 y3 y4 y5 : Int) (t10 t11 t12 : AV) : St := ⟨[.any, .any, .any, .any, .any, .any, .any, .any, .any, .sl 4 0 10 10, t10, t11, t12] ++ List.replicate 141 .any, [rw6 z0 z1 z2 z3 z4 z5, rw6 y0 y1 y2 y3 y4 y5, rw6 0 255 1 255 1 255, rw6 0 0 0 0 0 0,
  [.v (.int .u64 0), .v (.int .u64 1), .v (.int .u64 2), .v (.int .u64 2147483647), .v (.int .u64 2147483648), .v (.int .u64 4294967295), .v (.int .u64 4294967296), .v (.int .u64 9223372036854775807), .v (.int .u64 9223372036854775808), .v (.int .u64 18446744073709551615)]]⟩
noncomputable def body4 : Code := match blk Try.prog 7 4 with
  | .loop c => c
  | _ => .skip
def ob17 (A : Prop) : Prop := ob true true (ob true true (ob true true (ob true true (ob true true (ob true true (ob true true (ob true true (ob true true (ob true true (ob false true (ob true true (ob true true (ob true true (ob true true (ob false true (ob true true A))))))))))))))))
def nRd (z0 z1 z2 z3 z4 z5 y0 y1 y2 y3 y4 y5 : Int) (op i k : Int) (Q : Exit → St → Prop) : Prop := rndL Try.prog TKn EE false [] 90 [9, 10, 11, 12] 5 body4 (SL z0 z1 z2 z3 z4 z5 y0 y1 y2 y3 y4 y5 (.v (.int .i64 op)) (.v (.int .i64 i)) (.v (.int .i64 k))) Q
end Go.Proofs.Ytceclodenhgoeaa.ScUo
end
section
/- Layer 5: ScalarKnown's innermost loop: rounds. -/
namespace Go.Proofs.Ytceclodenhgoeaa.ScUoa
open Go Go.Proofs Go.Proofs.Ytceclodenhgoeaa.Xc Go.Proofs.Ytceclodenhgoeaa.ScUo
set_option maxRecDepth 100000
set_option linter.unusedVariables false
theorem d0_0 (z0 z1 z2 z3 z4 z5 y0 y1 y2 y3 y4 y5 : Int) (op : Int) (Q : Exit → St → Prop) : nRd z0 z1 z2 z3 z4 z5 y0 y1 y2 y3 y4 y5 op 0 0 Q = ob17 (Q .normal (SL z0 z1 z2 z3 z4 z5 y0 y1 y2 y3 y4 y5 (.v (.int .i64 op)) (.v (.int .i64 0)) (.v (.int .i64 1)))) := by kernel_rfl
theorem d0_1 (z0 z1 z2 z3 z4 z5 y0 y1 y2 y3 y4 y5 : Int) (op : Int) (Q : Exit → St → Prop) : nRd z0 z1 z2 z3 z4 z5 y0 y1 y2 y3 y4 y5 op 0 1 Q = ob17 (Q .normal (SL z0 z1 z2 z3 z4 z5 y0 y1 y2 y3 y4 y5 (.v (.int .i64 op)) (.v (.int .i64 0)) (.v (.int .i64 2)))) := by kernel_rfl
theorem d0_2 (z0 z1 z2 z3 z4 z5 y0 y1 y2 y3 y4 y5 : Int) (op : Int) (Q : Exit → St → Prop) : nRd z0 z1 z2 z3 z4 z5 y0 y1 y2 y3 y4 y5 op 0 2 Q = ob17 (Q .normal (SL z0 z1 z2 z3 z4 z5 y0 y1 y2 y3 y4 y5 (.v (.int .i64 op)) (.v (.int .i64 0)) (.v (.int .i64 3)))) := by kernel_rfl
theorem d0_3 (z0 z1 z2 z3 z4 z5 y0 y1 y2 y3 y4 y5 : Int) (op : Int) (Q : Exit → St → Prop) : nRd z0 z1 z2 z3 z4 z5 y0 y1 y2 y3 y4 y5 op 0 3 Q = ob17 (Q .normal (SL z0 z1 z2 z3 z4 z5 y0 y1 y2 y3 y4 y5 (.v (.int .i64 op)) (.v (.int .i64 0)) (.v (.int .i64 4)))) := by kernel_rfl
theorem d0_4 (z0 z1 z2 z3 z4 z5 y0 y1 y2 y3 y4 y5 : Int) (op : Int) (Q : Exit → St → Prop) : nRd z0 z1 z2 z3 z4 z5 y0 y1 y2 y3 y4 y5 op 0 4 Q = ob17 (Q .normal (SL z0 z1 z2 z3 z4 z5 y0 y1 y2 y3 y4 y5 (.v (.int .i64 op)) (.v (.int .i64 0)) (.v (.int .i64 5)))) := by kernel_rfl
theorem d0_5 (z0 z1 z2 z3 z4 z5 y0 y1 y2 y3 y4 y5 : Int) (op : Int) (Q : Exit → St → Prop) : nRd z0 z1 z2 z3 z4 z5 y0 y1 y2 y3 y4 y5 op 0 5 Q = ob17 (Q .normal (SL z0 z1 z2 z3 z4 z5 y0 y1 y2 y3 y4 y5 (.v (.int .i64 op)) (.v (.int .i64 0)) (.v (.int .i64 6)))) := by kernel_rfl
theorem d0_6 (z0 z1 z2 z3 z4 z5 y0 y1 y2 y3 y4 y5 : Int) (op : Int) (Q : Exit → St → Prop) : nRd z0 z1 z2 z3 z4 z5 y0 y1 y2 y3 y4 y5 op 0 6 Q = ob17 (Q .normal (SL z0 z1 z2 z3 z4 z5 y0 y1 y2 y3 y4 y5 (.v (.int .i64 op)) (.v (.int .i64 0)) (.v (.int .i64 7)))) := by kernel_rfl
theorem d0_7 (z0 z1 z2 z3 z4 z5 y0 y1 y2 y3 y4 y5 : Int) (op : Int) (Q : Exit → St → Prop) : nRd z0 z1 z2 z3 z4 z5 y0 y1 y2 y3 y4 y5 op 0 7 Q = ob17 (Q .normal (SL z0 z1 z2 z3 z4 z5 y0 y1 y2 y3 y4 y5 (.v (.int .i64 op)) (.v (.int .i64 0)) (.v (.int .i64 8)))) := by kernel_rfl
theorem d0_8 (z0 z1 z2 z3 z4 z5 y0 y1 y2 y3 y4 y5 : Int) (op : Int) (Q : Exit → St → Prop) : nRd z0 z1 z2 z3 z4 z5 y0 y1 y2 y3 y4 y5 op 0 8 Q = ob17 (Q .normal (SL z0 z1 z2 z3 z4 z5 y0 y1 y2 y3 y4 y5 (.v (.int .i64 op)) (.v (.int .i64 0)) (.v (.int .i64 9)))) := by kernel_rfl
theorem d0_9 (z0 z1 z2 z3 z4 z5 y0 y1 y2 y3 y4 y5 : Int) (op : Int) (Q : Exit → St → Prop) : nRd z0 z1 z2 z3 z4 z5 y0 y1 y2 y3 y4 y5 op 0 9 Q = ob17 (Q .normal (SL z0 z1 z2 z3 z4 z5 y0 y1 y2 y3 y4 y5 (.v (.int .i64 op)) (.v (.int .i64 0)) (.v (.int .i64 10)))) := by kernel_rfl
theorem d1_0 (z0 z1 z2 z3 z4 z5 y0 y1 y2 y3 y4 y5 : Int) (op : Int) (Q : Exit → St → Prop) : nRd z0 z1 z2 z3 z4 z5 y0 y1 y2 y3 y4 y5 op 1 0 Q = ob17 (Q .normal (SL z0 z1 z2 z3 z4 z5 y0 y1 y2 y3 y4 y5 (.v (.int .i64 op)) (.v (.int .i64 1)) (.v (.int .i64 1)))) := by kernel_rfl
theorem d1_1 (z0 z1 z2 z3 z4 z5 y0 y1 y2 y3 y4 y5 : Int) (op : Int) (Q : Exit → St → Prop) : nRd z0 z1 z2 z3 z4 z5 y0 y1 y2 y3 y4 y5 op 1 1 Q = ob17 (Q .normal (SL z0 z1 z2 z3 z4 z5 y0 y1 y2 y3 y4 y5 (.v (.int .i64 op)) (.v (.int .i64 1)) (.v (.int .i64 2)))) := by kernel_rfl
theorem d1_2 (z0 z1 z2 z3 z4 z5 y0 y1 y2 y3 y4 y5 : Int) (op : Int) (Q : Exit → St → Prop) : nRd z0 z1 z2 z3 z4 z5 y0 y1 y2 y3 y4 y5 op 1 2 Q = ob17 (Q .normal (SL z0 z1 z2 z3 z4 z5 y0 y1 y2 y3 y4 y5 (.v (.int .i64 op)) (.v (.int .i64 1)) (.v (.int .i64 3)))) := by kernel_rfl
theorem d1_3 (z0 z1 z2 z3 z4 z5 y0 y1 y2 y3 y4 y5 : Int) (op : Int) (Q : Exit → St → Prop) : nRd z0 z1 z2 z3 z4 z5 y0 y1 y2 y3 y4 y5 op 1 3 Q = ob17 (Q .normal (SL z0 z1 z2 z3 z4 z5 y0 y1 y2 y3 y4 y5 (.v (.int .i64 op)) (.v (.int .i64 1)) (.v (.int .i64 4)))) := by kernel_rfl
theorem d1_4 (z0 z1 z2 z3 z4 z5 y0 y1 y2 y3 y4 y5 : Int) (op : Int) (Q : Exit → St → Prop) : nRd z0 z1 z2 z3 z4 z5 y0 y1 y2 y3 y4 y5 op 1 4 Q = ob17 (Q .normal (SL z0 z1 z2 z3 z4 z5 y0 y1 y2 y3 y4 y5 (.v (.int .i64 op)) (.v (.int .i64 1)) (.v (.int .i64 5)))) := by kernel_rfl
theorem d1_5 (z0 z1 z2 z3 z4 z5 y0 y1 y2 y3 y4 y5 : Int) (op : Int) (Q : Exit → St → Prop) : nRd z0 z1 z2 z3 z4 z5 y0 y1 y2 y3 y4 y5 op 1 5 Q = ob17 (Q .normal (SL z0 z1 z2 z3 z4 z5 y0 y1 y2 y3 y4 y5 (.v (.int .i64 op)) (.v (.int .i64 1)) (.v (.int .i64 6)))) := by kernel_rfl
theorem d1_6 (z0 z1 z2 z3 z4 z5 y0 y1 y2 y3 y4 y5 : Int) (op : Int) (Q : Exit → St → Prop) : nRd z0 z1 z2 z3 z4 z5 y0 y1 y2 y3 y4 y5 op 1 6 Q = ob17 (Q .normal (SL z0 z1 z2 z3 z4 z5 y0 y1 y2 y3 y4 y5 (.v (.int .i64 op)) (.v (.int .i64 1)) (.v (.int .i64 7)))) := by kernel_rfl
theorem d1_7 (z0 z1 z2 z3 z4 z5 y0 y1 y2 y3 y4 y5 : Int) (op : Int) (Q : Exit → St → Prop) : nRd z0 z1 z2 z3 z4 z5 y0 y1 y2 y3 y4 y5 op 1 7 Q = ob17 (Q .normal (SL z0 z1 z2 z3 z4 z5 y0 y1 y2 y3 y4 y5 (.v (.int .i64 op)) (.v (.int .i64 1)) (.v (.int .i64 8)))) := by kernel_rfl
theorem d1_8 (z0 z1 z2 z3 z4 z5 y0 y1 y2 y3 y4 y5 : Int) (op : Int) (Q : Exit → St → Prop) : nRd z0 z1 z2 z3 z4 z5 y0 y1 y2 y3 y4 y5 op 1 8 Q = ob17 (Q .normal (SL z0 z1 z2 z3 z4 z5 y0 y1 y2 y3 y4 y5 (.v (.int .i64 op)) (.v (.int .i64 1)) (.v (.int .i64 9)))) := by kernel_rfl
theorem d1_9 (z0 z1 z2 z3 z4 z5 y0 y1 y2 y3 y4 y5 : Int) (op : Int) (Q : Exit → St → Prop) : nRd z0 z1 z2 z3 z4 z5 y0 y1 y2 y3 y4 y5 op 1 9 Q = ob17 (Q .normal (SL z0 z1 z2 z3 z4 z5 y0 y1 y2 y3 y4 y5 (.v (.int .i64 op)) (.v (.int .i64 1)) (.v (.int .i64 10)))) := by kernel_rfl
theorem d2_0 (z0 z1 z2 z3 z4 z5 y0 y1 y2 y3 y4 y5 : Int) (op : Int) (Q : Exit → St → Prop) : nRd z0 z1 z2 z3 z4 z5 y0 y1 y2 y3 y4 y5 op 2 0 Q = ob17 (Q .normal (SL z0 z1 z2 z3 z4 z5 y0 y1 y2 y3 y4 y5 (.v (.int .i64 op)) (.v (.int .i64 2)) (.v (.int .i64 1)))) := by kernel_rfl
theorem d2_1 (z0 z1 z2 z3 z4 z5 y0 y1 y2 y3 y4 y5 : Int) (op : Int) (Q : Exit → St → Prop) : nRd z0 z1 z2 z3 z4 z5 y0 y1 y2 y3 y4 y5 op 2 1 Q = ob17 (Q .normal (SL z0 z1 z2 z3 z4 z5 y0 y1 y2 y3 y4 y5 (.v (.int .i64 op)) (.v (.int .i64 2)) (.v (.int .i64 2)))) := by kernel_rfl
theorem d2_2 (z0 z1 z2 z3 z4 z5 y0 y1 y2 y3 y4 y5 : Int) (op : Int) (Q : Exit → St → Prop) : nRd z0 z1 z2 z3 z4 z5 y0 y1 y2 y3 y4 y5 op 2 2 Q = ob17 (Q .normal (SL z0 z1 z2 z3 z4 z5 y0 y1 y2 y3 y4 y5 (.v (.int .i64 op)) (.v (.int .i64 2)) (.v (.int .i64 3)))) := by kernel_rfl
theorem d2_3 (z0 z1 z2 z3 z4 z5 y0 y1 y2 y3 y4 y5 : Int) (op : Int) (Q : Exit → St → Prop) : nRd z0 z1 z2 z3 z4 z5 y0 y1 y2 y3 y4 y5 op 2 3 Q = ob17 (Q .normal (SL z0 z1 z2 z3 z4 z5 y0 y1 y2 y3 y4 y5 (.v (.int .i64 op)) (.v (.int .i64 2)) (.v (.int .i64 4)))) := by kernel_rfl
theorem d2_4 (z0 z1 z2 z3 z4 z5 y0 y1 y2 y3 y4 y5 : Int) (op : Int) (Q : Exit → St → Prop) : nRd z0 z1 z2 z3 z4 z5 y0 y1 y2 y3 y4 y5 op 2 4 Q = ob17 (Q .normal (SL z0 z1 z2 z3 z4 z5 y0 y1 y2 y3 y4 y5 (.v (.int .i64 op)) (.v (.int .i64 2)) (.v (.int .i64 5)))) := by kernel_rfl
theorem d2_5 (z0 z1 z2 z3 z4 z5 y0 y1 y2 y3 y4 y5 : Int) (op : Int) (Q : Exit → St → Prop) : nRd z0 z1 z2 z3 z4 z5 y0 y1 y2 y3 y4 y5 op 2 5 Q = ob17 (Q .normal (SL z0 z1 z2 z3 z4 z5 y0 y1 y2 y3 y4 y5 (.v (.int .i64 op)) (.v (.int .i64 2)) (.v (.int .i64 6)))) := by kernel_rfl
theorem d2_6 (z0 z1 z2 z3 z4 z5 y0 y1 y2 y3 y4 y5 : Int) (op : Int) (Q : Exit → St → Prop) : nRd z0 z1 z2 z3 z4 z5 y0 y1 y2 y3 y4 y5 op 2 6 Q = ob17 (Q .normal (SL z0 z1 z2 z3 z4 z5 y0 y1 y2 y3 y4 y5 (.v (.int .i64 op)) (.v (.int .i64 2)) (.v (.int .i64 7)))) := by kernel_rfl
theorem d2_7 (z0 z1 z2 z3 z4 z5 y0 y1 y2 y3 y4 y5 : Int) (op : Int) (Q : Exit → St → Prop) : nRd z0 z1 z2 z3 z4 z5 y0 y1 y2 y3 y4 y5 op 2 7 Q = ob17 (Q .normal (SL z0 z1 z2 z3 z4 z5 y0 y1 y2 y3 y4 y5 (.v (.int .i64 op)) (.v (.int .i64 2)) (.v (.int .i64 8)))) := by kernel_rfl
theorem d2_8 (z0 z1 z2 z3 z4 z5 y0 y1 y2 y3 y4 y5 : Int) (op : Int) (Q : Exit → St → Prop) : nRd z0 z1 z2 z3 z4 z5 y0 y1 y2 y3 y4 y5 op 2 8 Q = ob17 (Q .normal (SL z0 z1 z2 z3 z4 z5 y0 y1 y2 y3 y4 y5 (.v (.int .i64 op)) (.v (.int .i64 2)) (.v (.int .i64 9)))) := by kernel_rfl
theorem d2_9 (z0 z1 z2 z3 z4 z5 y0 y1 y2 y3 y4 y5 : Int) (op : Int) (Q : Exit → St → Prop) : nRd z0 z1 z2 z3 z4 z5 y0 y1 y2 y3 y4 y5 op 2 9 Q = ob17 (Q .normal (SL z0 z1 z2 z3 z4 z5 y0 y1 y2 y3 y4 y5 (.v (.int .i64 op)) (.v (.int .i64 2)) (.v (.int .i64 10)))) := by kernel_rfl
end Go.Proofs.Ytceclodenhgoeaa.ScUoa
end
section
/- Layer 5: ScalarKnown's innermost loop: rounds. -/
namespace Go.Proofs.Ytceclodenhgoeaa.ScUob
open Go Go.Proofs Go.Proofs.Ytceclodenhgoeaa.Xc Go.Proofs.Ytceclodenhgoeaa.ScUo
set_option maxRecDepth 100000
set_option linter.unusedVariables false
theorem d3_0 (z0 z1 z2 z3 z4 z5 y0 y1 y2 y3 y4 y5 : Int) (op : Int) (Q : Exit → St → Prop) : nRd z0 z1 z2 z3 z4 z5 y0 y1 y2 y3 y4 y5 op 3 0 Q = ob17 (Q .normal (SL z0 z1 z2 z3 z4 z5 y0 y1 y2 y3 y4 y5 (.v (.int .i64 op)) (.v (.int .i64 3)) (.v (.int .i64 1)))) := by kernel_rfl
theorem d3_1 (z0 z1 z2 z3 z4 z5 y0 y1 y2 y3 y4 y5 : Int) (op : Int) (Q : Exit → St → Prop) : nRd z0 z1 z2 z3 z4 z5 y0 y1 y2 y3 y4 y5 op 3 1 Q = ob17 (Q .normal (SL z0 z1 z2 z3 z4 z5 y0 y1 y2 y3 y4 y5 (.v (.int .i64 op)) (.v (.int .i64 3)) (.v (.int .i64 2)))) := by kernel_rfl
theorem d3_2 (z0 z1 z2 z3 z4 z5 y0 y1 y2 y3 y4 y5 : Int) (op : Int) (Q : Exit → St → Prop) : nRd z0 z1 z2 z3 z4 z5 y0 y1 y2 y3 y4 y5 op 3 2 Q = ob17 (Q .normal (SL z0 z1 z2 z3 z4 z5 y0 y1 y2 y3 y4 y5 (.v (.int .i64 op)) (.v (.int .i64 3)) (.v (.int .i64 3)))) := by kernel_rfl
theorem d3_3 (z0 z1 z2 z3 z4 z5 y0 y1 y2 y3 y4 y5 : Int) (op : Int) (Q : Exit → St → Prop) : nRd z0 z1 z2 z3 z4 z5 y0 y1 y2 y3 y4 y5 op 3 3 Q = ob17 (Q .normal (SL z0 z1 z2 z3 z4 z5 y0 y1 y2 y3 y4 y5 (.v (.int .i64 op)) (.v (.int .i64 3)) (.v (.int .i64 4)))) := by kernel_rfl
theorem d3_4 (z0 z1 z2 z3 z4 z5 y0 y1 y2 y3 y4 y5 : Int) (op : Int) (Q : Exit → St → Prop) : nRd z0 z1 z2 z3 z4 z5 y0 y1 y2 y3 y4 y5 op 3 4 Q = ob17 (Q .normal (SL z0 z1 z2 z3 z4 z5 y0 y1 y2 y3 y4 y5 (.v (.int .i64 op)) (.v (.int .i64 3)) (.v (.int .i64 5)))) := by kernel_rfl
theorem d3_5 (z0 z1 z2 z3 z4 z5 y0 y1 y2 y3 y4 y5 : Int) (op : Int) (Q : Exit → St → Prop) : nRd z0 z1 z2 z3 z4 z5 y0 y1 y2 y3 y4 y5 op 3 5 Q = ob17 (Q .normal (SL z0 z1 z2 z3 z4 z5 y0 y1 y2 y3 y4 y5 (.v (.int .i64 op)) (.v (.int .i64 3)) (.v (.int .i64 6)))) := by kernel_rfl
theorem d3_6 (z0 z1 z2 z3 z4 z5 y0 y1 y2 y3 y4 y5 : Int) (op : Int) (Q : Exit → St → Prop) : nRd z0 z1 z2 z3 z4 z5 y0 y1 y2 y3 y4 y5 op 3 6 Q = ob17 (Q .normal (SL z0 z1 z2 z3 z4 z5 y0 y1 y2 y3 y4 y5 (.v (.int .i64 op)) (.v (.int .i64 3)) (.v (.int .i64 7)))) := by kernel_rfl
theorem d3_7 (z0 z1 z2 z3 z4 z5 y0 y1 y2 y3 y4 y5 : Int) (op : Int) (Q : Exit → St → Prop) : nRd z0 z1 z2 z3 z4 z5 y0 y1 y2 y3 y4 y5 op 3 7 Q = ob17 (Q .normal (SL z0 z1 z2 z3 z4 z5 y0 y1 y2 y3 y4 y5 (.v (.int .i64 op)) (.v (.int .i64 3)) (.v (.int .i64 8)))) := by kernel_rfl
theorem d3_8 (z0 z1 z2 z3 z4 z5 y0 y1 y2 y3 y4 y5 : Int) (op : Int) (Q : Exit → St → Prop) : nRd z0 z1 z2 z3 z4 z5 y0 y1 y2 y3 y4 y5 op 3 8 Q = ob17 (Q .normal (SL z0 z1 z2 z3 z4 z5 y0 y1 y2 y3 y4 y5 (.v (.int .i64 op)) (.v (.int .i64 3)) (.v (.int .i64 9)))) := by kernel_rfl
theorem d3_9 (z0 z1 z2 z3 z4 z5 y0 y1 y2 y3 y4 y5 : Int) (op : Int) (Q : Exit → St → Prop) : nRd z0 z1 z2 z3 z4 z5 y0 y1 y2 y3 y4 y5 op 3 9 Q = ob17 (Q .normal (SL z0 z1 z2 z3 z4 z5 y0 y1 y2 y3 y4 y5 (.v (.int .i64 op)) (.v (.int .i64 3)) (.v (.int .i64 10)))) := by kernel_rfl
theorem d4_0 (z0 z1 z2 z3 z4 z5 y0 y1 y2 y3 y4 y5 : Int) (op : Int) (Q : Exit → St → Prop) : nRd z0 z1 z2 z3 z4 z5 y0 y1 y2 y3 y4 y5 op 4 0 Q = ob17 (Q .normal (SL z0 z1 z2 z3 z4 z5 y0 y1 y2 y3 y4 y5 (.v (.int .i64 op)) (.v (.int .i64 4)) (.v (.int .i64 1)))) := by kernel_rfl
theorem d4_1 (z0 z1 z2 z3 z4 z5 y0 y1 y2 y3 y4 y5 : Int) (op : Int) (Q : Exit → St → Prop) : nRd z0 z1 z2 z3 z4 z5 y0 y1 y2 y3 y4 y5 op 4 1 Q = ob17 (Q .normal (SL z0 z1 z2 z3 z4 z5 y0 y1 y2 y3 y4 y5 (.v (.int .i64 op)) (.v (.int .i64 4)) (.v (.int .i64 2)))) := by kernel_rfl
theorem d4_2 (z0 z1 z2 z3 z4 z5 y0 y1 y2 y3 y4 y5 : Int) (op : Int) (Q : Exit → St → Prop) : nRd z0 z1 z2 z3 z4 z5 y0 y1 y2 y3 y4 y5 op 4 2 Q = ob17 (Q .normal (SL z0 z1 z2 z3 z4 z5 y0 y1 y2 y3 y4 y5 (.v (.int .i64 op)) (.v (.int .i64 4)) (.v (.int .i64 3)))) := by kernel_rfl
theorem d4_3 (z0 z1 z2 z3 z4 z5 y0 y1 y2 y3 y4 y5 : Int) (op : Int) (Q : Exit → St → Prop) : nRd z0 z1 z2 z3 z4 z5 y0 y1 y2 y3 y4 y5 op 4 3 Q = ob17 (Q .normal (SL z0 z1 z2 z3 z4 z5 y0 y1 y2 y3 y4 y5 (.v (.int .i64 op)) (.v (.int .i64 4)) (.v (.int .i64 4)))) := by kernel_rfl
theorem d4_4 (z0 z1 z2 z3 z4 z5 y0 y1 y2 y3 y4 y5 : Int) (op : Int) (Q : Exit → St → Prop) : nRd z0 z1 z2 z3 z4 z5 y0 y1 y2 y3 y4 y5 op 4 4 Q = ob17 (Q .normal (SL z0 z1 z2 z3 z4 z5 y0 y1 y2 y3 y4 y5 (.v (.int .i64 op)) (.v (.int .i64 4)) (.v (.int .i64 5)))) := by kernel_rfl
theorem d4_5 (z0 z1 z2 z3 z4 z5 y0 y1 y2 y3 y4 y5 : Int) (op : Int) (Q : Exit → St → Prop) : nRd z0 z1 z2 z3 z4 z5 y0 y1 y2 y3 y4 y5 op 4 5 Q = ob17 (Q .normal (SL z0 z1 z2 z3 z4 z5 y0 y1 y2 y3 y4 y5 (.v (.int .i64 op)) (.v (.int .i64 4)) (.v (.int .i64 6)))) := by kernel_rfl
theorem d4_6 (z0 z1 z2 z3 z4 z5 y0 y1 y2 y3 y4 y5 : Int) (op : Int) (Q : Exit → St → Prop) : nRd z0 z1 z2 z3 z4 z5 y0 y1 y2 y3 y4 y5 op 4 6 Q = ob17 (Q .normal (SL z0 z1 z2 z3 z4 z5 y0 y1 y2 y3 y4 y5 (.v (.int .i64 op)) (.v (.int .i64 4)) (.v (.int .i64 7)))) := by kernel_rfl
theorem d4_7 (z0 z1 z2 z3 z4 z5 y0 y1 y2 y3 y4 y5 : Int) (op : Int) (Q : Exit → St → Prop) : nRd z0 z1 z2 z3 z4 z5 y0 y1 y2 y3 y4 y5 op 4 7 Q = ob17 (Q .normal (SL z0 z1 z2 z3 z4 z5 y0 y1 y2 y3 y4 y5 (.v (.int .i64 op)) (.v (.int .i64 4)) (.v (.int .i64 8)))) := by kernel_rfl
theorem d4_8 (z0 z1 z2 z3 z4 z5 y0 y1 y2 y3 y4 y5 : Int) (op : Int) (Q : Exit → St → Prop) : nRd z0 z1 z2 z3 z4 z5 y0 y1 y2 y3 y4 y5 op 4 8 Q = ob17 (Q .normal (SL z0 z1 z2 z3 z4 z5 y0 y1 y2 y3 y4 y5 (.v (.int .i64 op)) (.v (.int .i64 4)) (.v (.int .i64 9)))) := by kernel_rfl
theorem d4_9 (z0 z1 z2 z3 z4 z5 y0 y1 y2 y3 y4 y5 : Int) (op : Int) (Q : Exit → St → Prop) : nRd z0 z1 z2 z3 z4 z5 y0 y1 y2 y3 y4 y5 op 4 9 Q = ob17 (Q .normal (SL z0 z1 z2 z3 z4 z5 y0 y1 y2 y3 y4 y5 (.v (.int .i64 op)) (.v (.int .i64 4)) (.v (.int .i64 10)))) := by kernel_rfl
theorem d5_0 (z0 z1 z2 z3 z4 z5 y0 y1 y2 y3 y4 y5 : Int) (op : Int) (Q : Exit → St → Prop) : nRd z0 z1 z2 z3 z4 z5 y0 y1 y2 y3 y4 y5 op 5 0 Q = ob17 (Q .normal (SL z0 z1 z2 z3 z4 z5 y0 y1 y2 y3 y4 y5 (.v (.int .i64 op)) (.v (.int .i64 5)) (.v (.int .i64 1)))) := by kernel_rfl
theorem d5_1 (z0 z1 z2 z3 z4 z5 y0 y1 y2 y3 y4 y5 : Int) (op : Int) (Q : Exit → St → Prop) : nRd z0 z1 z2 z3 z4 z5 y0 y1 y2 y3 y4 y5 op 5 1 Q = ob17 (Q .normal (SL z0 z1 z2 z3 z4 z5 y0 y1 y2 y3 y4 y5 (.v (.int .i64 op)) (.v (.int .i64 5)) (.v (.int .i64 2)))) := by kernel_rfl
theorem d5_2 (z0 z1 z2 z3 z4 z5 y0 y1 y2 y3 y4 y5 : Int) (op : Int) (Q : Exit → St → Prop) : nRd z0 z1 z2 z3 z4 z5 y0 y1 y2 y3 y4 y5 op 5 2 Q = ob17 (Q .normal (SL z0 z1 z2 z3 z4 z5 y0 y1 y2 y3 y4 y5 (.v (.int .i64 op)) (.v (.int .i64 5)) (.v (.int .i64 3)))) := by kernel_rfl
theorem d5_3 (z0 z1 z2 z3 z4 z5 y0 y1 y2 y3 y4 y5 : Int) (op : Int) (Q : Exit → St → Prop) : nRd z0 z1 z2 z3 z4 z5 y0 y1 y2 y3 y4 y5 op 5 3 Q = ob17 (Q .normal (SL z0 z1 z2 z3 z4 z5 y0 y1 y2 y3 y4 y5 (.v (.int .i64 op)) (.v (.int .i64 5)) (.v (.int .i64 4)))) := by kernel_rfl
theorem d5_4 (z0 z1 z2 z3 z4 z5 y0 y1 y2 y3 y4 y5 : Int) (op : Int) (Q : Exit → St → Prop) : nRd z0 z1 z2 z3 z4 z5 y0 y1 y2 y3 y4 y5 op 5 4 Q = ob17 (Q .normal (SL z0 z1 z2 z3 z4 z5 y0 y1 y2 y3 y4 y5 (.v (.int .i64 op)) (.v (.int .i64 5)) (.v (.int .i64 5)))) := by kernel_rfl
theorem d5_5 (z0 z1 z2 z3 z4 z5 y0 y1 y2 y3 y4 y5 : Int) (op : Int) (Q : Exit → St → Prop) : nRd z0 z1 z2 z3 z4 z5 y0 y1 y2 y3 y4 y5 op 5 5 Q = ob17 (Q .normal (SL z0 z1 z2 z3 z4 z5 y0 y1 y2 y3 y4 y5 (.v (.int .i64 op)) (.v (.int .i64 5)) (.v (.int .i64 6)))) := by kernel_rfl
theorem d5_6 (z0 z1 z2 z3 z4 z5 y0 y1 y2 y3 y4 y5 : Int) (op : Int) (Q : Exit → St → Prop) : nRd z0 z1 z2 z3 z4 z5 y0 y1 y2 y3 y4 y5 op 5 6 Q = ob17 (Q .normal (SL z0 z1 z2 z3 z4 z5 y0 y1 y2 y3 y4 y5 (.v (.int .i64 op)) (.v (.int .i64 5)) (.v (.int .i64 7)))) := by kernel_rfl
theorem d5_7 (z0 z1 z2 z3 z4 z5 y0 y1 y2 y3 y4 y5 : Int) (op : Int) (Q : Exit → St → Prop) : nRd z0 z1 z2 z3 z4 z5 y0 y1 y2 y3 y4 y5 op 5 7 Q = ob17 (Q .normal (SL z0 z1 z2 z3 z4 z5 y0 y1 y2 y3 y4 y5 (.v (.int .i64 op)) (.v (.int .i64 5)) (.v (.int .i64 8)))) := by kernel_rfl
theorem d5_8 (z0 z1 z2 z3 z4 z5 y0 y1 y2 y3 y4 y5 : Int) (op : Int) (Q : Exit → St → Prop) : nRd z0 z1 z2 z3 z4 z5 y0 y1 y2 y3 y4 y5 op 5 8 Q = ob17 (Q .normal (SL z0 z1 z2 z3 z4 z5 y0 y1 y2 y3 y4 y5 (.v (.int .i64 op)) (.v (.int .i64 5)) (.v (.int .i64 9)))) := by kernel_rfl
theorem d5_9 (z0 z1 z2 z3 z4 z5 y0 y1 y2 y3 y4 y5 : Int) (op : Int) (Q : Exit → St → Prop) : nRd z0 z1 z2 z3 z4 z5 y0 y1 y2 y3 y4 y5 op 5 9 Q = ob17 (Q .normal (SL z0 z1 z2 z3 z4 z5 y0 y1 y2 y3 y4 y5 (.v (.int .i64 op)) (.v (.int .i64 5)) (.v (.int .i64 10)))) := by kernel_rfl
end Go.Proofs.Ytceclodenhgoeaa.ScUob
end
section
/- Layer 5: ScalarKnown's innermost loop: rounds. -/
namespace Go.Proofs.Ytceclodenhgoeaa.ScUoc
open Go Go.Proofs Go.Proofs.Ytceclodenhgoeaa.Xc Go.Proofs.Ytceclodenhgoeaa.ScUo
set_option maxRecDepth 100000
set_option linter.unusedVariables false
theorem d6_0 (z0 z1 z2 z3 z4 z5 y0 y1 y2 y3 y4 y5 : Int) (op : Int) (Q : Exit → St → Prop) : nRd z0 z1 z2 z3 z4 z5 y0 y1 y2 y3 y4 y5 op 6 0 Q = ob17 (Q .normal (SL z0 z1 z2 z3 z4 z5 y0 y1 y2 y3 y4 y5 (.v (.int .i64 op)) (.v (.int .i64 6)) (.v (.int .i64 1)))) := by kernel_rfl
theorem d6_1 (z0 z1 z2 z3 z4 z5 y0 y1 y2 y3 y4 y5 : Int) (op : Int) (Q : Exit → St → Prop) : nRd z0 z1 z2 z3 z4 z5 y0 y1 y2 y3 y4 y5 op 6 1 Q = ob17 (Q .normal (SL z0 z1 z2 z3 z4 z5 y0 y1 y2 y3 y4 y5 (.v (.int .i64 op)) (.v (.int .i64 6)) (.v (.int .i64 2)))) := by kernel_rfl
theorem d6_2 (z0 z1 z2 z3 z4 z5 y0 y1 y2 y3 y4 y5 : Int) (op : Int) (Q : Exit → St → Prop) : nRd z0 z1 z2 z3 z4 z5 y0 y1 y2 y3 y4 y5 op 6 2 Q = ob17 (Q .normal (SL z0 z1 z2 z3 z4 z5 y0 y1 y2 y3 y4 y5 (.v (.int .i64 op)) (.v (.int .i64 6)) (.v (.int .i64 3)))) := by kernel_rfl
theorem d6_3 (z0 z1 z2 z3 z4 z5 y0 y1 y2 y3 y4 y5 : Int) (op : Int) (Q : Exit → St → Prop) : nRd z0 z1 z2 z3 z4 z5 y0 y1 y2 y3 y4 y5 op 6 3 Q = ob17 (Q .normal (SL z0 z1 z2 z3 z4 z5 y0 y1 y2 y3 y4 y5 (.v (.int .i64 op)) (.v (.int .i64 6)) (.v (.int .i64 4)))) := by kernel_rfl
theorem d6_4 (z0 z1 z2 z3 z4 z5 y0 y1 y2 y3 y4 y5 : Int) (op : Int) (Q : Exit → St → Prop) : nRd z0 z1 z2 z3 z4 z5 y0 y1 y2 y3 y4 y5 op 6 4 Q = ob17 (Q .normal (SL z0 z1 z2 z3 z4 z5 y0 y1 y2 y3 y4 y5 (.v (.int .i64 op)) (.v (.int .i64 6)) (.v (.int .i64 5)))) := by kernel_rfl
theorem d6_5 (z0 z1 z2 z3 z4 z5 y0 y1 y2 y3 y4 y5 : Int) (op : Int) (Q : Exit → St → Prop) : nRd z0 z1 z2 z3 z4 z5 y0 y1 y2 y3 y4 y5 op 6 5 Q = ob17 (Q .normal (SL z0 z1 z2 z3 z4 z5 y0 y1 y2 y3 y4 y5 (.v (.int .i64 op)) (.v (.int .i64 6)) (.v (.int .i64 6)))) := by kernel_rfl
theorem d6_6 (z0 z1 z2 z3 z4 z5 y0 y1 y2 y3 y4 y5 : Int) (op : Int) (Q : Exit → St → Prop) : nRd z0 z1 z2 z3 z4 z5 y0 y1 y2 y3 y4 y5 op 6 6 Q = ob17 (Q .normal (SL z0 z1 z2 z3 z4 z5 y0 y1 y2 y3 y4 y5 (.v (.int .i64 op)) (.v (.int .i64 6)) (.v (.int .i64 7)))) := by kernel_rfl
theorem d6_7 (z0 z1 z2 z3 z4 z5 y0 y1 y2 y3 y4 y5 : Int) (op : Int) (Q : Exit → St → Prop) : nRd z0 z1 z2 z3 z4 z5 y0 y1 y2 y3 y4 y5 op 6 7 Q = ob17 (Q .normal (SL z0 z1 z2 z3 z4 z5 y0 y1 y2 y3 y4 y5 (.v (.int .i64 op)) (.v (.int .i64 6)) (.v (.int .i64 8)))) := by kernel_rfl
theorem d6_8 (z0 z1 z2 z3 z4 z5 y0 y1 y2 y3 y4 y5 : Int) (op : Int) (Q : Exit → St → Prop) : nRd z0 z1 z2 z3 z4 z5 y0 y1 y2 y3 y4 y5 op 6 8 Q = ob17 (Q .normal (SL z0 z1 z2 z3 z4 z5 y0 y1 y2 y3 y4 y5 (.v (.int .i64 op)) (.v (.int .i64 6)) (.v (.int .i64 9)))) := by kernel_rfl
theorem d6_9 (z0 z1 z2 z3 z4 z5 y0 y1 y2 y3 y4 y5 : Int) (op : Int) (Q : Exit → St → Prop) : nRd z0 z1 z2 z3 z4 z5 y0 y1 y2 y3 y4 y5 op 6 9 Q = ob17 (Q .normal (SL z0 z1 z2 z3 z4 z5 y0 y1 y2 y3 y4 y5 (.v (.int .i64 op)) (.v (.int .i64 6)) (.v (.int .i64 10)))) := by kernel_rfl
theorem d7_0 (z0 z1 z2 z3 z4 z5 y0 y1 y2 y3 y4 y5 : Int) (op : Int) (Q : Exit → St → Prop) : nRd z0 z1 z2 z3 z4 z5 y0 y1 y2 y3 y4 y5 op 7 0 Q = ob17 (Q .normal (SL z0 z1 z2 z3 z4 z5 y0 y1 y2 y3 y4 y5 (.v (.int .i64 op)) (.v (.int .i64 7)) (.v (.int .i64 1)))) := by kernel_rfl
theorem d7_1 (z0 z1 z2 z3 z4 z5 y0 y1 y2 y3 y4 y5 : Int) (op : Int) (Q : Exit → St → Prop) : nRd z0 z1 z2 z3 z4 z5 y0 y1 y2 y3 y4 y5 op 7 1 Q = ob17 (Q .normal (SL z0 z1 z2 z3 z4 z5 y0 y1 y2 y3 y4 y5 (.v (.int .i64 op)) (.v (.int .i64 7)) (.v (.int .i64 2)))) := by kernel_rfl
theorem d7_2 (z0 z1 z2 z3 z4 z5 y0 y1 y2 y3 y4 y5 : Int) (op : Int) (Q : Exit → St → Prop) : nRd z0 z1 z2 z3 z4 z5 y0 y1 y2 y3 y4 y5 op 7 2 Q = ob17 (Q .normal (SL z0 z1 z2 z3 z4 z5 y0 y1 y2 y3 y4 y5 (.v (.int .i64 op)) (.v (.int .i64 7)) (.v (.int .i64 3)))) := by kernel_rfl
theorem d7_3 (z0 z1 z2 z3 z4 z5 y0 y1 y2 y3 y4 y5 : Int) (op : Int) (Q : Exit → St → Prop) : nRd z0 z1 z2 z3 z4 z5 y0 y1 y2 y3 y4 y5 op 7 3 Q = ob17 (Q .normal (SL z0 z1 z2 z3 z4 z5 y0 y1 y2 y3 y4 y5 (.v (.int .i64 op)) (.v (.int .i64 7)) (.v (.int .i64 4)))) := by kernel_rfl
theorem d7_4 (z0 z1 z2 z3 z4 z5 y0 y1 y2 y3 y4 y5 : Int) (op : Int) (Q : Exit → St → Prop) : nRd z0 z1 z2 z3 z4 z5 y0 y1 y2 y3 y4 y5 op 7 4 Q = ob17 (Q .normal (SL z0 z1 z2 z3 z4 z5 y0 y1 y2 y3 y4 y5 (.v (.int .i64 op)) (.v (.int .i64 7)) (.v (.int .i64 5)))) := by kernel_rfl
theorem d7_5 (z0 z1 z2 z3 z4 z5 y0 y1 y2 y3 y4 y5 : Int) (op : Int) (Q : Exit → St → Prop) : nRd z0 z1 z2 z3 z4 z5 y0 y1 y2 y3 y4 y5 op 7 5 Q = ob17 (Q .normal (SL z0 z1 z2 z3 z4 z5 y0 y1 y2 y3 y4 y5 (.v (.int .i64 op)) (.v (.int .i64 7)) (.v (.int .i64 6)))) := by kernel_rfl
theorem d7_6 (z0 z1 z2 z3 z4 z5 y0 y1 y2 y3 y4 y5 : Int) (op : Int) (Q : Exit → St → Prop) : nRd z0 z1 z2 z3 z4 z5 y0 y1 y2 y3 y4 y5 op 7 6 Q = ob17 (Q .normal (SL z0 z1 z2 z3 z4 z5 y0 y1 y2 y3 y4 y5 (.v (.int .i64 op)) (.v (.int .i64 7)) (.v (.int .i64 7)))) := by kernel_rfl
theorem d7_7 (z0 z1 z2 z3 z4 z5 y0 y1 y2 y3 y4 y5 : Int) (op : Int) (Q : Exit → St → Prop) : nRd z0 z1 z2 z3 z4 z5 y0 y1 y2 y3 y4 y5 op 7 7 Q = ob17 (Q .normal (SL z0 z1 z2 z3 z4 z5 y0 y1 y2 y3 y4 y5 (.v (.int .i64 op)) (.v (.int .i64 7)) (.v (.int .i64 8)))) := by kernel_rfl
theorem d7_8 (z0 z1 z2 z3 z4 z5 y0 y1 y2 y3 y4 y5 : Int) (op : Int) (Q : Exit → St → Prop) : nRd z0 z1 z2 z3 z4 z5 y0 y1 y2 y3 y4 y5 op 7 8 Q = ob17 (Q .normal (SL z0 z1 z2 z3 z4 z5 y0 y1 y2 y3 y4 y5 (.v (.int .i64 op)) (.v (.int .i64 7)) (.v (.int .i64 9)))) := by kernel_rfl
theorem d7_9 (z0 z1 z2 z3 z4 z5 y0 y1 y2 y3 y4 y5 : Int) (op : Int) (Q : Exit → St → Prop) : nRd z0 z1 z2 z3 z4 z5 y0 y1 y2 y3 y4 y5 op 7 9 Q = ob17 (Q .normal (SL z0 z1 z2 z3 z4 z5 y0 y1 y2 y3 y4 y5 (.v (.int .i64 op)) (.v (.int .i64 7)) (.v (.int .i64 10)))) := by kernel_rfl
end Go.Proofs.Ytceclodenhgoeaa.ScUoc
end
section
/- Layer 5: ScalarKnown's innermost loop: rounds. -/
namespace Go.Proofs.Ytceclodenhgoeaa.ScUod
open Go Go.Proofs Go.Proofs.Ytceclodenhgoeaa.Xc Go.Proofs.Ytceclodenhgoeaa.ScUo
set_option maxRecDepth 100000
set_option linter.unusedVariables false
theorem d8_0 (z0 z1 z2 z3 z4 z5 y0 y1 y2 y3 y4 y5 : Int) (op : Int) (Q : Exit → St → Prop) : nRd z0 z1 z2 z3 z4 z5 y0 y1 y2 y3 y4 y5 op 8 0 Q = ob17 (Q .normal (SL z0 z1 z2 z3 z4 z5 y0 y1 y2 y3 y4 y5 (.v (.int .i64 op)) (.v (.int .i64 8)) (.v (.int .i64 1)))) := by kernel_rfl
theorem d8_1 (z0 z1 z2 z3 z4 z5 y0 y1 y2 y3 y4 y5 : Int) (op : Int) (Q : Exit → St → Prop) : nRd z0 z1 z2 z3 z4 z5 y0 y1 y2 y3 y4 y5 op 8 1 Q = ob17 (Q .normal (SL z0 z1 z2 z3 z4 z5 y0 y1 y2 y3 y4 y5 (.v (.int .i64 op)) (.v (.int .i64 8)) (.v (.int .i64 2)))) := by kernel_rfl
theorem d8_2 (z0 z1 z2 z3 z4 z5 y0 y1 y2 y3 y4 y5 : Int) (op : Int) (Q : Exit → St → Prop) : nRd z0 z1 z2 z3 z4 z5 y0 y1 y2 y3 y4 y5 op 8 2 Q = ob17 (Q .normal (SL z0 z1 z2 z3 z4 z5 y0 y1 y2 y3 y4 y5 (.v (.int .i64 op)) (.v (.int .i64 8)) (.v (.int .i64 3)))) := by kernel_rfl
theorem d8_3 (z0 z1 z2 z3 z4 z5 y0 y1 y2 y3 y4 y5 : Int) (op : Int) (Q : Exit → St → Prop) : nRd z0 z1 z2 z3 z4 z5 y0 y1 y2 y3 y4 y5 op 8 3 Q = ob17 (Q .normal (SL z0 z1 z2 z3 z4 z5 y0 y1 y2 y3 y4 y5 (.v (.int .i64 op)) (.v (.int .i64 8)) (.v (.int .i64 4)))) := by kernel_rfl
theorem d8_4 (z0 z1 z2 z3 z4 z5 y0 y1 y2 y3 y4 y5 : Int) (op : Int) (Q : Exit → St → Prop) : nRd z0 z1 z2 z3 z4 z5 y0 y1 y2 y3 y4 y5 op 8 4 Q = ob17 (Q .normal (SL z0 z1 z2 z3 z4 z5 y0 y1 y2 y3 y4 y5 (.v (.int .i64 op)) (.v (.int .i64 8)) (.v (.int .i64 5)))) := by kernel_rfl
theorem d8_5 (z0 z1 z2 z3 z4 z5 y0 y1 y2 y3 y4 y5 : Int) (op : Int) (Q : Exit → St → Prop) : nRd z0 z1 z2 z3 z4 z5 y0 y1 y2 y3 y4 y5 op 8 5 Q = ob17 (Q .normal (SL z0 z1 z2 z3 z4 z5 y0 y1 y2 y3 y4 y5 (.v (.int .i64 op)) (.v (.int .i64 8)) (.v (.int .i64 6)))) := by kernel_rfl
theorem d8_6 (z0 z1 z2 z3 z4 z5 y0 y1 y2 y3 y4 y5 : Int) (op : Int) (Q : Exit → St → Prop) : nRd z0 z1 z2 z3 z4 z5 y0 y1 y2 y3 y4 y5 op 8 6 Q = ob17 (Q .normal (SL z0 z1 z2 z3 z4 z5 y0 y1 y2 y3 y4 y5 (.v (.int .i64 op)) (.v (.int .i64 8)) (.v (.int .i64 7)))) := by kernel_rfl
theorem d8_7 (z0 z1 z2 z3 z4 z5 y0 y1 y2 y3 y4 y5 : Int) (op : Int) (Q : Exit → St → Prop) : nRd z0 z1 z2 z3 z4 z5 y0 y1 y2 y3 y4 y5 op 8 7 Q = ob17 (Q .normal (SL z0 z1 z2 z3 z4 z5 y0 y1 y2 y3 y4 y5 (.v (.int .i64 op)) (.v (.int .i64 8)) (.v (.int .i64 8)))) := by kernel_rfl
theorem d8_8 (z0 z1 z2 z3 z4 z5 y0 y1 y2 y3 y4 y5 : Int) (op : Int) (Q : Exit → St → Prop) : nRd z0 z1 z2 z3 z4 z5 y0 y1 y2 y3 y4 y5 op 8 8 Q = ob17 (Q .normal (SL z0 z1 z2 z3 z4 z5 y0 y1 y2 y3 y4 y5 (.v (.int .i64 op)) (.v (.int .i64 8)) (.v (.int .i64 9)))) := by kernel_rfl
theorem d8_9 (z0 z1 z2 z3 z4 z5 y0 y1 y2 y3 y4 y5 : Int) (op : Int) (Q : Exit → St → Prop) : nRd z0 z1 z2 z3 z4 z5 y0 y1 y2 y3 y4 y5 op 8 9 Q = ob17 (Q .normal (SL z0 z1 z2 z3 z4 z5 y0 y1 y2 y3 y4 y5 (.v (.int .i64 op)) (.v (.int .i64 8)) (.v (.int .i64 10)))) := by kernel_rfl
theorem d9_0 (z0 z1 z2 z3 z4 z5 y0 y1 y2 y3 y4 y5 : Int) (op : Int) (Q : Exit → St → Prop) : nRd z0 z1 z2 z3 z4 z5 y0 y1 y2 y3 y4 y5 op 9 0 Q = ob17 (Q .normal (SL z0 z1 z2 z3 z4 z5 y0 y1 y2 y3 y4 y5 (.v (.int .i64 op)) (.v (.int .i64 9)) (.v (.int .i64 1)))) := by kernel_rfl
theorem d9_1 (z0 z1 z2 z3 z4 z5 y0 y1 y2 y3 y4 y5 : Int) (op : Int) (Q : Exit → St → Prop) : nRd z0 z1 z2 z3 z4 z5 y0 y1 y2 y3 y4 y5 op 9 1 Q = ob17 (Q .normal (SL z0 z1 z2 z3 z4 z5 y0 y1 y2 y3 y4 y5 (.v (.int .i64 op)) (.v (.int .i64 9)) (.v (.int .i64 2)))) := by kernel_rfl
theorem d9_2 (z0 z1 z2 z3 z4 z5 y0 y1 y2 y3 y4 y5 : Int) (op : Int) (Q : Exit → St → Prop) : nRd z0 z1 z2 z3 z4 z5 y0 y1 y2 y3 y4 y5 op 9 2 Q = ob17 (Q .normal (SL z0 z1 z2 z3 z4 z5 y0 y1 y2 y3 y4 y5 (.v (.int .i64 op)) (.v (.int .i64 9)) (.v (.int .i64 3)))) := by kernel_rfl
theorem d9_3 (z0 z1 z2 z3 z4 z5 y0 y1 y2 y3 y4 y5 : Int) (op : Int) (Q : Exit → St → Prop) : nRd z0 z1 z2 z3 z4 z5 y0 y1 y2 y3 y4 y5 op 9 3 Q = ob17 (Q .normal (SL z0 z1 z2 z3 z4 z5 y0 y1 y2 y3 y4 y5 (.v (.int .i64 op)) (.v (.int .i64 9)) (.v (.int .i64 4)))) := by kernel_rfl
theorem d9_4 (z0 z1 z2 z3 z4 z5 y0 y1 y2 y3 y4 y5 : Int) (op : Int) (Q : Exit → St → Prop) : nRd z0 z1 z2 z3 z4 z5 y0 y1 y2 y3 y4 y5 op 9 4 Q = ob17 (Q .normal (SL z0 z1 z2 z3 z4 z5 y0 y1 y2 y3 y4 y5 (.v (.int .i64 op)) (.v (.int .i64 9)) (.v (.int .i64 5)))) := by kernel_rfl
theorem d9_5 (z0 z1 z2 z3 z4 z5 y0 y1 y2 y3 y4 y5 : Int) (op : Int) (Q : Exit → St → Prop) : nRd z0 z1 z2 z3 z4 z5 y0 y1 y2 y3 y4 y5 op 9 5 Q = ob17 (Q .normal (SL z0 z1 z2 z3 z4 z5 y0 y1 y2 y3 y4 y5 (.v (.int .i64 op)) (.v (.int .i64 9)) (.v (.int .i64 6)))) := by kernel_rfl
theorem d9_6 (z0 z1 z2 z3 z4 z5 y0 y1 y2 y3 y4 y5 : Int) (op : Int) (Q : Exit → St → Prop) : nRd z0 z1 z2 z3 z4 z5 y0 y1 y2 y3 y4 y5 op 9 6 Q = ob17 (Q .normal (SL z0 z1 z2 z3 z4 z5 y0 y1 y2 y3 y4 y5 (.v (.int .i64 op)) (.v (.int .i64 9)) (.v (.int .i64 7)))) := by kernel_rfl
theorem d9_7 (z0 z1 z2 z3 z4 z5 y0 y1 y2 y3 y4 y5 : Int) (op : Int) (Q : Exit → St → Prop) : nRd z0 z1 z2 z3 z4 z5 y0 y1 y2 y3 y4 y5 op 9 7 Q = ob17 (Q .normal (SL z0 z1 z2 z3 z4 z5 y0 y1 y2 y3 y4 y5 (.v (.int .i64 op)) (.v (.int .i64 9)) (.v (.int .i64 8)))) := by kernel_rfl
theorem d9_8 (z0 z1 z2 z3 z4 z5 y0 y1 y2 y3 y4 y5 : Int) (op : Int) (Q : Exit → St → Prop) : nRd z0 z1 z2 z3 z4 z5 y0 y1 y2 y3 y4 y5 op 9 8 Q = ob17 (Q .normal (SL z0 z1 z2 z3 z4 z5 y0 y1 y2 y3 y4 y5 (.v (.int .i64 op)) (.v (.int .i64 9)) (.v (.int .i64 9)))) := by kernel_rfl
theorem d9_9 (z0 z1 z2 z3 z4 z5 y0 y1 y2 y3 y4 y5 : Int) (op : Int) (Q : Exit → St → Prop) : nRd z0 z1 z2 z3 z4 z5 y0 y1 y2 y3 y4 y5 op 9 9 Q = ob17 (Q .normal (SL z0 z1 z2 z3 z4 z5 y0 y1 y2 y3 y4 y5 (.v (.int .i64 op)) (.v (.int .i64 9)) (.v (.int .i64 10)))) := by kernel_rfl
end Go.Proofs.Ytceclodenhgoeaa.ScUod
end
section
/- Layer 5: ScalarKnown, run. -/
namespace Go.Proofs.Ytceclodenhgoeaa.ScUp
open Go Go.RowKit Go.Proofs Go.Proofs.Ytceclodenhgoeaa.Xc Go.Proofs.Ytceclodenhgoeaa.Sc Go.Proofs.Ytceclodenhgoeaa.ScG Go.Proofs.Ytceclodenhgoeaa.ScP Go.Proofs.Ytceclodenhgoeaa.ScUe Go.Proofs.Ytceclodenhgoeaa.ScUj Go.Proofs.Ytceclodenhgoeaa.ScV Go.Proofs.Ytceclodenhgoeaa.ScY Go.Proofs.Ytceclodenhgoeaa.ScAd Go.Proofs.Ytceclodenhgoeaa.ScUo
set_option maxRecDepth 100000
set_option linter.unusedVariables false
def nRo (z0 z1 z2 z3 z4 z5 y0 y1 y2 y3 y4 y5 : Int) (op i : Int) (Q : Exit → St → Prop) : Prop := rndL Try.prog TKn EE false [] 90 [9, 10, 11, 12] 5 body4 (SL z0 z1 z2 z3 z4 z5 y0 y1 y2 y3 y4 y5 (.v (.int .i64 op)) (.v (.int .i64 i)) (.v (.int .i64 10))) Q
theorem nRo_eq (z0 z1 z2 z3 z4 z5 y0 y1 y2 y3 y4 y5 : Int) (op i : Int) (Q : Exit → St → Prop) : nRo z0 z1 z2 z3 z4 z5 y0 y1 y2 y3 y4 y5 op i Q = (Q (Go.Exit.exit 4) (St.mk [AV.any, AV.any, AV.any, AV.any, AV.any, AV.any, AV.any, AV.any, AV.any, AV.sl 4 0 10 10, AV.v (.int .i64 op), AV.v (.int .i64 i), AV.v (.int .i64 10), AV.any, AV.any, AV.any, AV.any, AV.any, AV.any, AV.any, AV.any, AV.any, AV.any, AV.any, AV.any, AV.any, AV.any, AV.any, AV.any, AV.any, AV.any, AV.any, AV.any, AV.any, AV.any, AV.any, AV.any, AV.any, AV.any, AV.any, AV.any, AV.any, AV.any, AV.any, AV.any, AV.any, AV.any, AV.any, AV.any, AV.any, AV.any, AV.any, AV.any, AV.any, AV.any, AV.any, AV.any, AV.any, AV.any, AV.any, AV.any, AV.any, AV.any, AV.any, AV.any, AV.any, AV.any, AV.any, AV.any, AV.any, AV.any, AV.any, AV.any, AV.any, AV.any, AV.any, AV.any, AV.any, AV.any, AV.any, AV.any, AV.any, AV.any, AV.any, AV.any, AV.any, AV.any, AV.any, AV.any, AV.any, AV.any, AV.any, AV.any, AV.any, AV.any, AV.any, AV.any, AV.any, AV.any, AV.any, AV.any, AV.any, AV.any, AV.any, AV.any, AV.any, AV.any, AV.any, AV.any, AV.any, AV.any, AV.any, AV.any, AV.any, AV.any, AV.any, AV.any, AV.any, AV.any, AV.any, AV.any, AV.any, AV.any, AV.any, AV.any, AV.any, AV.any, AV.any, AV.any, AV.any, AV.any, AV.any, AV.any, AV.any, AV.any, AV.any, AV.any, AV.any, AV.any, AV.any, AV.any, AV.any, AV.any, AV.any, AV.any, AV.any, AV.any, AV.any, AV.any, AV.any, AV.any, AV.any, AV.any, AV.any] [[AV.v (.int .u64 z0), AV.v (.int .u64 z1), AV.v (.int .u64 z2), AV.v (.int .u64 z3), AV.v (.int .i64 z4), AV.v (.int .i64 z5)], [AV.v (.int .u64 y0), AV.v (.int .u64 y1), AV.v (.int .u64 y2), AV.v (.int .u64 y3), AV.v (.int .i64 y4), AV.v (.int .i64 y5)], [AV.v (.int .u64 0), AV.v (.int .u64 255), AV.v (.int .u64 1), AV.v (.int .u64 255), AV.v (.int .i64 1), AV.v (.int .i64 255)], [AV.v (.int .u64 0), AV.v (.int .u64 0), AV.v (.int .u64 0), AV.v (.int .u64 0), AV.v (.int .i64 0), AV.v (.int .i64 0)], [AV.v (.int .u64 0), AV.v (.int .u64 1), AV.v (.int .u64 2), AV.v (.int .u64 2147483647), AV.v (.int .u64 2147483648), AV.v (.int .u64 4294967295), AV.v (.int .u64 4294967296), AV.v (.int .u64 9223372036854775807), AV.v (.int .u64 9223372036854775808), AV.v (.int .u64 18446744073709551615)]])) := by kernel_rfl
/-- The innermost loop: what is known of it. -/
def F4 (s : St) (K : Exit → St → Prop) : Prop := match s with
  | ⟨t, [[.v (.int .u64 z0), .v (.int .u64 z1), .v (.int .u64 z2), .v (.int .u64 z3), .v (.int .i64 z4), .v (.int .i64 z5)], [.v (.int .u64 y0), .v (.int .u64 y1), .v (.int .u64 y2), .v (.int .u64 y3), .v (.int .i64 y4), .v (.int .i64 y5)], c2, c3, c4]⟩ => match t.getD 10 AV.any, t.getD 11 AV.any with
    | .v (.int .i64 op), .v (.int .i64 i) => need (keep [9, 10, 11, 12] 100 ⟨t, [rw6 z0 z1 z2 z3 z4 z5, rw6 y0 y1 y2 y3 y4 y5, c2, c3, c4]⟩ = SL z0 z1 z2 z3 z4 z5 y0 y1 y2 y3 y4 y5 (.v (.int .i64 op)) (.v (.int .i64 i)) (.v (.int .i64 0))) (need (0 ≤ i ∧ i < 10) (K (.exit 4) (SL z0 z1 z2 z3 z4 z5 y0 y1 y2 y3 y4 y5 (.v (.int .i64 op)) (.v (.int .i64 i)) (.v (.int .i64 10)))))
    | _, _ => False
  | _ => False
noncomputable def Lt4 : Loops := [(4, blk Try.prog 7 4, F4)]
noncomputable def body2 : Code := match blk Try.prog 7 2 with
  | .loop c => c
  | _ => .skip
def nRi (z0 z1 z2 z3 z4 z5 y0 y1 y2 y3 y4 y5 : Int) (op i : Int) (Q : Exit → St → Prop) : Prop := rndL Try.prog TKn EE false Lt4 90 [9, 10, 11] 5 body2 (SL z0 z1 z2 z3 z4 z5 y0 y1 y2 y3 y4 y5 (.v (.int .i64 op)) (.v (.int .i64 i)) .any) Q
theorem nRi_eq (z0 z1 z2 z3 z4 z5 y0 y1 y2 y3 y4 y5 : Int) (op i : Int) (Q : Exit → St → Prop) : nRi z0 z1 z2 z3 z4 z5 y0 y1 y2 y3 y4 y5 op i Q = (br (decide (i < (↑10 : Int))) (same (blk Go.Proofs.Try.prog 7 4) (blk Go.Proofs.Try.prog 7 4) (need (St.mk [AV.any, AV.any, AV.any, AV.any, AV.any, AV.any, AV.any, AV.any, AV.any, AV.sl 4 0 10 10, AV.v (.int .i64 op), AV.v (.int .i64 i), AV.v (.int .i64 0), AV.any, AV.any, AV.any, AV.any, AV.any, AV.any, AV.any, AV.any, AV.any, AV.any, AV.any, AV.any, AV.any, AV.any, AV.any, AV.any, AV.any, AV.any, AV.any, AV.any, AV.any, AV.any, AV.any, AV.any, AV.any, AV.any, AV.any, AV.any, AV.any, AV.any, AV.any, AV.any, AV.any, AV.any, AV.any, AV.any, AV.any, AV.any, AV.any, AV.any, AV.any, AV.any, AV.any, AV.any, AV.any, AV.any, AV.any, AV.any, AV.any, AV.any, AV.any, AV.any, AV.any, AV.any, AV.any, AV.any, AV.any, AV.any, AV.any, AV.any, AV.any, AV.any, AV.any, AV.any, AV.any, AV.any, AV.any, AV.any, AV.any, AV.any, AV.any, AV.any, AV.any, AV.any, AV.any, AV.any, AV.any, AV.any, AV.any, AV.any, AV.any, AV.any, AV.any, AV.any, AV.any, AV.any, AV.any, AV.any, AV.any, AV.any, AV.any, AV.any, AV.any, AV.any, AV.any, AV.any, AV.any, AV.any, AV.any, AV.any, AV.any, AV.any, AV.any, AV.any, AV.any, AV.any, AV.any, AV.any, AV.any, AV.any, AV.any, AV.any, AV.any, AV.any, AV.any, AV.any, AV.any, AV.any, AV.any, AV.any, AV.any, AV.any, AV.any, AV.any, AV.any, AV.any, AV.any, AV.any, AV.any, AV.any, AV.any, AV.any, AV.any, AV.any, AV.any, AV.any, AV.any, AV.any, AV.any, AV.any, AV.any] [[AV.v (.int .u64 z0), AV.v (.int .u64 z1), AV.v (.int .u64 z2), AV.v (.int .u64 z3), AV.v (.int .i64 z4), AV.v (.int .i64 z5)], [AV.v (.int .u64 y0), AV.v (.int .u64 y1), AV.v (.int .u64 y2), AV.v (.int .u64 y3), AV.v (.int .i64 y4), AV.v (.int .i64 y5)], [AV.v (.int .u64 0), AV.v (.int .u64 255), AV.v (.int .u64 1), AV.v (.int .u64 255), AV.v (.int .i64 1), AV.v (.int .i64 255)], [AV.v (.int .u64 0), AV.v (.int .u64 0), AV.v (.int .u64 0), AV.v (.int .u64 0), AV.v (.int .i64 0), AV.v (.int .i64 0)], [AV.v (.int .u64 0), AV.v (.int .u64 1), AV.v (.int .u64 2), AV.v (.int .u64 2147483647), AV.v (.int .u64 2147483648), AV.v (.int .u64 4294967295), AV.v (.int .u64 4294967296), AV.v (.int .u64 9223372036854775807), AV.v (.int .u64 9223372036854775808), AV.v (.int .u64 18446744073709551615)]] = St.mk [AV.any, AV.any, AV.any, AV.any, AV.any, AV.any, AV.any, AV.any, AV.any, AV.sl 4 0 10 10, AV.v (.int .i64 op), AV.v (.int .i64 i), AV.v (.int .i64 0), AV.any, AV.any, AV.any, AV.any, AV.any, AV.any, AV.any, AV.any, AV.any, AV.any, AV.any, AV.any, AV.any, AV.any, AV.any, AV.any, AV.any, AV.any, AV.any, AV.any, AV.any, AV.any, AV.any, AV.any, AV.any, AV.any, AV.any, AV.any, AV.any, AV.any, AV.any, AV.any, AV.any, AV.any, AV.any, AV.any, AV.any, AV.any, AV.any, AV.any, AV.any, AV.any, AV.any, AV.any, AV.any, AV.any, AV.any, AV.any, AV.any, AV.any, AV.any, AV.any, AV.any, AV.any, AV.any, AV.any, AV.any, AV.any, AV.any, AV.any, AV.any, AV.any, AV.any, AV.any, AV.any, AV.any, AV.any, AV.any, AV.any, AV.any, AV.any, AV.any, AV.any, AV.any, AV.any, AV.any, AV.any, AV.any, AV.any, AV.any, AV.any, AV.any, AV.any, AV.any, AV.any, AV.any, AV.any, AV.any, AV.any, AV.any, AV.any, AV.any, AV.any, AV.any, AV.any, AV.any, AV.any, AV.any, AV.any, AV.any, AV.any, AV.any, AV.any, AV.any, AV.any, AV.any, AV.any, AV.any, AV.any, AV.any, AV.any, AV.any, AV.any, AV.any, AV.any, AV.any, AV.any, AV.any, AV.any, AV.any, AV.any, AV.any, AV.any, AV.any, AV.any, AV.any, AV.any, AV.any, AV.any, AV.any, AV.any, AV.any, AV.any, AV.any, AV.any, AV.any, AV.any, AV.any, AV.any, AV.any, AV.any] [[AV.v (.int .u64 z0), AV.v (.int .u64 z1), AV.v (.int .u64 z2), AV.v (.int .u64 z3), AV.v (.int .i64 z4), AV.v (.int .i64 z5)], [AV.v (.int .u64 y0), AV.v (.int .u64 y1), AV.v (.int .u64 y2), AV.v (.int .u64 y3), AV.v (.int .i64 y4), AV.v (.int .i64 y5)], [AV.v (.int .u64 0), AV.v (.int .u64 255), AV.v (.int .u64 1), AV.v (.int .u64 255), AV.v (.int .i64 1), AV.v (.int .i64 255)], [AV.v (.int .u64 0), AV.v (.int .u64 0), AV.v (.int .u64 0), AV.v (.int .u64 0), AV.v (.int .i64 0), AV.v (.int .i64 0)], [AV.v (.int .u64 0), AV.v (.int .u64 1), AV.v (.int .u64 2), AV.v (.int .u64 2147483647), AV.v (.int .u64 2147483648), AV.v (.int .u64 4294967295), AV.v (.int .u64 4294967296), AV.v (.int .u64 9223372036854775807), AV.v (.int .u64 9223372036854775808), AV.v (.int .u64 18446744073709551615)]]) (need (0 ≤ i ∧ i < 10) (Q Go.Exit.normal (St.mk [AV.any, AV.any, AV.any, AV.any, AV.any, AV.any, AV.any, AV.any, AV.any, AV.sl 4 0 10 10, AV.v (.int .i64 op), AV.v (.int .i64 (IntKind.wrap .i64 (i + 1))), AV.any, AV.any, AV.any, AV.any, AV.any, AV.any, AV.any, AV.any, AV.any, AV.any, AV.any, AV.any, AV.any, AV.any, AV.any, AV.any, AV.any, AV.any, AV.any, AV.any, AV.any, AV.any, AV.any, AV.any, AV.any, AV.any, AV.any, AV.any, AV.any, AV.any, AV.any, AV.any, AV.any, AV.any, AV.any, AV.any, AV.any, AV.any, AV.any, AV.any, AV.any, AV.any, AV.any, AV.any, AV.any, AV.any, AV.any, AV.any, AV.any, AV.any, AV.any, AV.any, AV.any, AV.any, AV.any, AV.any, AV.any, AV.any, AV.any, AV.any, AV.any, AV.any, AV.any, AV.any, AV.any, AV.any, AV.any, AV.any, AV.any, AV.any, AV.any, AV.any, AV.any, AV.any, AV.any, AV.any, AV.any, AV.any, AV.any, AV.any, AV.any, AV.any, AV.any, AV.any, AV.any, AV.any, AV.any, AV.any, AV.any, AV.any, AV.any, AV.any, AV.any, AV.any, AV.any, AV.any, AV.any, AV.any, AV.any, AV.any, AV.any, AV.any, AV.any, AV.any, AV.any, AV.any, AV.any, AV.any, AV.any, AV.any, AV.any, AV.any, AV.any, AV.any, AV.any, AV.any, AV.any, AV.any, AV.any, AV.any, AV.any, AV.any, AV.any, AV.any, AV.any, AV.any, AV.any, AV.any, AV.any, AV.any, AV.any, AV.any, AV.any, AV.any, AV.any, AV.any, AV.any, AV.any, AV.any, AV.any, AV.any, AV.any] [[AV.v (.int .u64 z0), AV.v (.int .u64 z1), AV.v (.int .u64 z2), AV.v (.int .u64 z3), AV.v (.int .i64 z4), AV.v (.int .i64 z5)], [AV.v (.int .u64 y0), AV.v (.int .u64 y1), AV.v (.int .u64 y2), AV.v (.int .u64 y3), AV.v (.int .i64 y4), AV.v (.int .i64 y5)], [AV.v (.int .u64 0), AV.v (.int .u64 255), AV.v (.int .u64 1), AV.v (.int .u64 255), AV.v (.int .i64 1), AV.v (.int .i64 255)], [AV.v (.int .u64 0), AV.v (.int .u64 0), AV.v (.int .u64 0), AV.v (.int .u64 0), AV.v (.int .i64 0), AV.v (.int .i64 0)], [AV.v (.int .u64 0), AV.v (.int .u64 1), AV.v (.int .u64 2), AV.v (.int .u64 2147483647), AV.v (.int .u64 2147483648), AV.v (.int .u64 4294967295), AV.v (.int .u64 4294967296), AV.v (.int .u64 9223372036854775807), AV.v (.int .u64 9223372036854775808), AV.v (.int .u64 18446744073709551615)]]))))) (Q (Go.Exit.exit 2) (St.mk [AV.any, AV.any, AV.any, AV.any, AV.any, AV.any, AV.any, AV.any, AV.any, AV.sl 4 0 10 10, AV.v (.int .i64 op), AV.v (.int .i64 i), AV.any, AV.any, AV.any, AV.any, AV.any, AV.any, AV.any, AV.any, AV.any, AV.any, AV.any, AV.any, AV.any, AV.any, AV.any, AV.any, AV.any, AV.any, AV.any, AV.any, AV.any, AV.any, AV.any, AV.any, AV.any, AV.any, AV.any, AV.any, AV.any, AV.any, AV.any, AV.any, AV.any, AV.any, AV.any, AV.any, AV.any, AV.any, AV.any, AV.any, AV.any, AV.any, AV.any, AV.any, AV.any, AV.any, AV.any, AV.any, AV.any, AV.any, AV.any, AV.any, AV.any, AV.any, AV.any, AV.any, AV.any, AV.any, AV.any, AV.any, AV.any, AV.any, AV.any, AV.any, AV.any, AV.any, AV.any, AV.any, AV.any, AV.any, AV.any, AV.any, AV.any, AV.any, AV.any, AV.any, AV.any, AV.any, AV.any, AV.any, AV.any, AV.any, AV.any, AV.any, AV.any, AV.any, AV.any, AV.any, AV.any, AV.any, AV.any, AV.any, AV.any, AV.any, AV.any, AV.any, AV.any, AV.any, AV.any, AV.any, AV.any, AV.any, AV.any, AV.any, AV.any, AV.any, AV.any, AV.any, AV.any, AV.any, AV.any, AV.any, AV.any, AV.any, AV.any, AV.any, AV.any, AV.any, AV.any, AV.any, AV.any, AV.any, AV.any, AV.any, AV.any, AV.any, AV.any, AV.any, AV.any, AV.any, AV.any, AV.any, AV.any, AV.any, AV.any, AV.any, AV.any, AV.any, AV.any, AV.any, AV.any, AV.any] [[AV.v (.int .u64 z0), AV.v (.int .u64 z1), AV.v (.int .u64 z2), AV.v (.int .u64 z3), AV.v (.int .i64 z4), AV.v (.int .i64 z5)], [AV.v (.int .u64 y0), AV.v (.int .u64 y1), AV.v (.int .u64 y2), AV.v (.int .u64 y3), AV.v (.int .i64 y4), AV.v (.int .i64 y5)], [AV.v (.int .u64 0), AV.v (.int .u64 255), AV.v (.int .u64 1), AV.v (.int .u64 255), AV.v (.int .i64 1), AV.v (.int .i64 255)], [AV.v (.int .u64 0), AV.v (.int .u64 0), AV.v (.int .u64 0), AV.v (.int .u64 0), AV.v (.int .i64 0), AV.v (.int .i64 0)], [AV.v (.int .u64 0), AV.v (.int .u64 1), AV.v (.int .u64 2), AV.v (.int .u64 2147483647), AV.v (.int .u64 2147483648), AV.v (.int .u64 4294967295), AV.v (.int .u64 4294967296), AV.v (.int .u64 9223372036854775807), AV.v (.int .u64 9223372036854775808), AV.v (.int .u64 18446744073709551615)]]))) := by kernel_rfl
/-- The loop about it. -/
def F2 (s : St) (K : Exit → St → Prop) : Prop := match s with
  | ⟨t, [[.v (.int .u64 z0), .v (.int .u64 z1), .v (.int .u64 z2), .v (.int .u64 z3), .v (.int .i64 z4), .v (.int .i64 z5)], [.v (.int .u64 y0), .v (.int .u64 y1), .v (.int .u64 y2), .v (.int .u64 y3), .v (.int .i64 y4), .v (.int .i64 y5)], c2, c3, c4]⟩ => match t.getD 10 AV.any with
    | .v (.int .i64 op) => need (keep [9, 10, 11] 100 ⟨t, [rw6 z0 z1 z2 z3 z4 z5, rw6 y0 y1 y2 y3 y4 y5, c2, c3, c4]⟩ = SL z0 z1 z2 z3 z4 z5 y0 y1 y2 y3 y4 y5 (.v (.int .i64 op)) (.v (.int .i64 0)) .any) (K (.exit 2) (SL z0 z1 z2 z3 z4 z5 y0 y1 y2 y3 y4 y5 (.v (.int .i64 op)) (.v (.int .i64 10)) .any))
    | _ => False
  | _ => False
noncomputable def Lt2 : Loops := [(2, blk Try.prog 7 2, F2)]
noncomputable def body0 : Code := match blk Try.prog 7 0 with
  | .loop c => c
  | _ => .skip
def nRp (z0 z1 z2 z3 z4 z5 y0 y1 y2 y3 y4 y5 : Int) (op : Int) (Q : Exit → St → Prop) : Prop := rndL Try.prog TKn EE false Lt2 90 [9, 10] 5 body0 (SL z0 z1 z2 z3 z4 z5 y0 y1 y2 y3 y4 y5 (.v (.int .i64 op)) .any .any) Q
theorem nRp_eq (z0 z1 z2 z3 z4 z5 y0 y1 y2 y3 y4 y5 : Int) (op : Int) (Q : Exit → St → Prop) : nRp z0 z1 z2 z3 z4 z5 y0 y1 y2 y3 y4 y5 op Q = (br (decide (op < 14)) (same (blk Go.Proofs.Try.prog 7 2) (blk Go.Proofs.Try.prog 7 2) (need (St.mk [AV.any, AV.any, AV.any, AV.any, AV.any, AV.any, AV.any, AV.any, AV.any, AV.sl 4 0 10 10, AV.v (.int .i64 op), AV.v (.int .i64 0), AV.any, AV.any, AV.any, AV.any, AV.any, AV.any, AV.any, AV.any, AV.any, AV.any, AV.any, AV.any, AV.any, AV.any, AV.any, AV.any, AV.any, AV.any, AV.any, AV.any, AV.any, AV.any, AV.any, AV.any, AV.any, AV.any, AV.any, AV.any, AV.any, AV.any, AV.any, AV.any, AV.any, AV.any, AV.any, AV.any, AV.any, AV.any, AV.any, AV.any, AV.any, AV.any, AV.any, AV.any, AV.any, AV.any, AV.any, AV.any, AV.any, AV.any, AV.any, AV.any, AV.any, AV.any, AV.any, AV.any, AV.any, AV.any, AV.any, AV.any, AV.any, AV.any, AV.any, AV.any, AV.any, AV.any, AV.any, AV.any, AV.any, AV.any, AV.any, AV.any, AV.any, AV.any, AV.any, AV.any, AV.any, AV.any, AV.any, AV.any, AV.any, AV.any, AV.any, AV.any, AV.any, AV.any, AV.any, AV.any, AV.any, AV.any, AV.any, AV.any, AV.any, AV.any, AV.any, AV.any, AV.any, AV.any, AV.any, AV.any, AV.any, AV.any, AV.any, AV.any, AV.any, AV.any, AV.any, AV.any, AV.any, AV.any, AV.any, AV.any, AV.any, AV.any, AV.any, AV.any, AV.any, AV.any, AV.any, AV.any, AV.any, AV.any, AV.any, AV.any, AV.any, AV.any, AV.any, AV.any, AV.any, AV.any, AV.any, AV.any, AV.any, AV.any, AV.any, AV.any, AV.any, AV.any, AV.any, AV.any, AV.any, AV.any] [[AV.v (.int .u64 z0), AV.v (.int .u64 z1), AV.v (.int .u64 z2), AV.v (.int .u64 z3), AV.v (.int .i64 z4), AV.v (.int .i64 z5)], [AV.v (.int .u64 y0), AV.v (.int .u64 y1), AV.v (.int .u64 y2), AV.v (.int .u64 y3), AV.v (.int .i64 y4), AV.v (.int .i64 y5)], [AV.v (.int .u64 0), AV.v (.int .u64 255), AV.v (.int .u64 1), AV.v (.int .u64 255), AV.v (.int .i64 1), AV.v (.int .i64 255)], [AV.v (.int .u64 0), AV.v (.int .u64 0), AV.v (.int .u64 0), AV.v (.int .u64 0), AV.v (.int .i64 0), AV.v (.int .i64 0)], [AV.v (.int .u64 0), AV.v (.int .u64 1), AV.v (.int .u64 2), AV.v (.int .u64 2147483647), AV.v (.int .u64 2147483648), AV.v (.int .u64 4294967295), AV.v (.int .u64 4294967296), AV.v (.int .u64 9223372036854775807), AV.v (.int .u64 9223372036854775808), AV.v (.int .u64 18446744073709551615)]] = St.mk [AV.any, AV.any, AV.any, AV.any, AV.any, AV.any, AV.any, AV.any, AV.any, AV.sl 4 0 10 10, AV.v (.int .i64 op), AV.v (.int .i64 0), AV.any, AV.any, AV.any, AV.any, AV.any, AV.any, AV.any, AV.any, AV.any, AV.any, AV.any, AV.any, AV.any, AV.any, AV.any, AV.any, AV.any, AV.any, AV.any, AV.any, AV.any, AV.any, AV.any, AV.any, AV.any, AV.any, AV.any, AV.any, AV.any, AV.any, AV.any, AV.any, AV.any, AV.any, AV.any, AV.any, AV.any, AV.any, AV.any, AV.any, AV.any, AV.any, AV.any, AV.any, AV.any, AV.any, AV.any, AV.any, AV.any, AV.any, AV.any, AV.any, AV.any, AV.any, AV.any, AV.any, AV.any, AV.any, AV.any, AV.any, AV.any, AV.any, AV.any, AV.any, AV.any, AV.any, AV.any, AV.any, AV.any, AV.any, AV.any, AV.any, AV.any, AV.any, AV.any, AV.any, AV.any, AV.any, AV.any, AV.any, AV.any, AV.any, AV.any, AV.any, AV.any, AV.any, AV.any, AV.any, AV.any, AV.any, AV.any, AV.any, AV.any, AV.any, AV.any, AV.any, AV.any, AV.any, AV.any, AV.any, AV.any, AV.any, AV.any, AV.any, AV.any, AV.any, AV.any, AV.any, AV.any, AV.any, AV.any, AV.any, AV.any, AV.any, AV.any, AV.any, AV.any, AV.any, AV.any, AV.any, AV.any, AV.any, AV.any, AV.any, AV.any, AV.any, AV.any, AV.any, AV.any, AV.any, AV.any, AV.any, AV.any, AV.any, AV.any, AV.any, AV.any, AV.any, AV.any, AV.any, AV.any, AV.any] [[AV.v (.int .u64 z0), AV.v (.int .u64 z1), AV.v (.int .u64 z2), AV.v (.int .u64 z3), AV.v (.int .i64 z4), AV.v (.int .i64 z5)], [AV.v (.int .u64 y0), AV.v (.int .u64 y1), AV.v (.int .u64 y2), AV.v (.int .u64 y3), AV.v (.int .i64 y4), AV.v (.int .i64 y5)], [AV.v (.int .u64 0), AV.v (.int .u64 255), AV.v (.int .u64 1), AV.v (.int .u64 255), AV.v (.int .i64 1), AV.v (.int .i64 255)], [AV.v (.int .u64 0), AV.v (.int .u64 0), AV.v (.int .u64 0), AV.v (.int .u64 0), AV.v (.int .i64 0), AV.v (.int .i64 0)], [AV.v (.int .u64 0), AV.v (.int .u64 1), AV.v (.int .u64 2), AV.v (.int .u64 2147483647), AV.v (.int .u64 2147483648), AV.v (.int .u64 4294967295), AV.v (.int .u64 4294967296), AV.v (.int .u64 9223372036854775807), AV.v (.int .u64 9223372036854775808), AV.v (.int .u64 18446744073709551615)]]) (Q Go.Exit.normal (St.mk [AV.any, AV.any, AV.any, AV.any, AV.any, AV.any, AV.any, AV.any, AV.any, AV.sl 4 0 10 10, AV.v (.int .i64 (IntKind.wrap .i64 (op + 1))), AV.any, AV.any, AV.any, AV.any, AV.any, AV.any, AV.any, AV.any, AV.any, AV.any, AV.any, AV.any, AV.any, AV.any, AV.any, AV.any, AV.any, AV.any, AV.any, AV.any, AV.any, AV.any, AV.any, AV.any, AV.any, AV.any, AV.any, AV.any, AV.any, AV.any, AV.any, AV.any, AV.any, AV.any, AV.any, AV.any, AV.any, AV.any, AV.any, AV.any, AV.any, AV.any, AV.any, AV.any, AV.any, AV.any, AV.any, AV.any, AV.any, AV.any, AV.any, AV.any, AV.any, AV.any, AV.any, AV.any, AV.any, AV.any, AV.any, AV.any, AV.any, AV.any, AV.any, AV.any, AV.any, AV.any, AV.any, AV.any, AV.any, AV.any, AV.any, AV.any, AV.any, AV.any, AV.any, AV.any, AV.any, AV.any, AV.any, AV.any, AV.any, AV.any, AV.any, AV.any, AV.any, AV.any, AV.any, AV.any, AV.any, AV.any, AV.any, AV.any, AV.any, AV.any, AV.any, AV.any, AV.any, AV.any, AV.any, AV.any, AV.any, AV.any, AV.any, AV.any, AV.any, AV.any, AV.any, AV.any, AV.any, AV.any, AV.any, AV.any, AV.any, AV.any, AV.any, AV.any, AV.any, AV.any, AV.any, AV.any, AV.any, AV.any, AV.any, AV.any, AV.any, AV.any, AV.any, AV.any, AV.any, AV.any, AV.any, AV.any, AV.any, AV.any, AV.any, AV.any, AV.any, AV.any, AV.any, AV.any, AV.any, AV.any, AV.any] [[AV.v (.int .u64 z0), AV.v (.int .u64 z1), AV.v (.int .u64 z2), AV.v (.int .u64 z3), AV.v (.int .i64 z4), AV.v (.int .i64 z5)], [AV.v (.int .u64 y0), AV.v (.int .u64 y1), AV.v (.int .u64 y2), AV.v (.int .u64 y3), AV.v (.int .i64 y4), AV.v (.int .i64 y5)], [AV.v (.int .u64 0), AV.v (.int .u64 255), AV.v (.int .u64 1), AV.v (.int .u64 255), AV.v (.int .i64 1), AV.v (.int .i64 255)], [AV.v (.int .u64 0), AV.v (.int .u64 0), AV.v (.int .u64 0), AV.v (.int .u64 0), AV.v (.int .i64 0), AV.v (.int .i64 0)], [AV.v (.int .u64 0), AV.v (.int .u64 1), AV.v (.int .u64 2), AV.v (.int .u64 2147483647), AV.v (.int .u64 2147483648), AV.v (.int .u64 4294967295), AV.v (.int .u64 4294967296), AV.v (.int .u64 9223372036854775807), AV.v (.int .u64 9223372036854775808), AV.v (.int .u64 18446744073709551615)]])))) (Q (Go.Exit.exit 0) (St.mk [AV.any, AV.any, AV.any, AV.any, AV.any, AV.any, AV.any, AV.any, AV.any, AV.sl 4 0 10 10, AV.v (.int .i64 op), AV.any, AV.any, AV.any, AV.any, AV.any, AV.any, AV.any, AV.any, AV.any, AV.any, AV.any, AV.any, AV.any, AV.any, AV.any, AV.any, AV.any, AV.any, AV.any, AV.any, AV.any, AV.any, AV.any, AV.any, AV.any, AV.any, AV.any, AV.any, AV.any, AV.any, AV.any, AV.any, AV.any, AV.any, AV.any, AV.any, AV.any, AV.any, AV.any, AV.any, AV.any, AV.any, AV.any, AV.any, AV.any, AV.any, AV.any, AV.any, AV.any, AV.any, AV.any, AV.any, AV.any, AV.any, AV.any, AV.any, AV.any, AV.any, AV.any, AV.any, AV.any, AV.any, AV.any, AV.any, AV.any, AV.any, AV.any, AV.any, AV.any, AV.any, AV.any, AV.any, AV.any, AV.any, AV.any, AV.any, AV.any, AV.any, AV.any, AV.any, AV.any, AV.any, AV.any, AV.any, AV.any, AV.any, AV.any, AV.any, AV.any, AV.any, AV.any, AV.any, AV.any, AV.any, AV.any, AV.any, AV.any, AV.any, AV.any, AV.any, AV.any, AV.any, AV.any, AV.any, AV.any, AV.any, AV.any, AV.any, AV.any, AV.any, AV.any, AV.any, AV.any, AV.any, AV.any, AV.any, AV.any, AV.any, AV.any, AV.any, AV.any, AV.any, AV.any, AV.any, AV.any, AV.any, AV.any, AV.any, AV.any, AV.any, AV.any, AV.any, AV.any, AV.any, AV.any, AV.any, AV.any, AV.any, AV.any, AV.any, AV.any, AV.any, AV.any] [[AV.v (.int .u64 z0), AV.v (.int .u64 z1), AV.v (.int .u64 z2), AV.v (.int .u64 z3), AV.v (.int .i64 z4), AV.v (.int .i64 z5)], [AV.v (.int .u64 y0), AV.v (.int .u64 y1), AV.v (.int .u64 y2), AV.v (.int .u64 y3), AV.v (.int .i64 y4), AV.v (.int .i64 y5)], [AV.v (.int .u64 0), AV.v (.int .u64 255), AV.v (.int .u64 1), AV.v (.int .u64 255), AV.v (.int .i64 1), AV.v (.int .i64 255)], [AV.v (.int .u64 0), AV.v (.int .u64 0), AV.v (.int .u64 0), AV.v (.int .u64 0), AV.v (.int .i64 0), AV.v (.int .i64 0)], [AV.v (.int .u64 0), AV.v (.int .u64 1), AV.v (.int .u64 2), AV.v (.int .u64 2147483647), AV.v (.int .u64 2147483648), AV.v (.int .u64 4294967295), AV.v (.int .u64 4294967296), AV.v (.int .u64 9223372036854775807), AV.v (.int .u64 9223372036854775808), AV.v (.int .u64 18446744073709551615)]]))) := by kernel_rfl
/-- The outermost loop. -/
def F0 (s : St) (K : Exit → St → Prop) : Prop := match s with
  | ⟨t, [[.v (.int .u64 z0), .v (.int .u64 z1), .v (.int .u64 z2), .v (.int .u64 z3), .v (.int .i64 z4), .v (.int .i64 z5)], [.v (.int .u64 y0), .v (.int .u64 y1), .v (.int .u64 y2), .v (.int .u64 y3), .v (.int .i64 y4), .v (.int .i64 y5)], c2, c3, c4]⟩ => need (keep [9, 10] 100 ⟨t, [rw6 z0 z1 z2 z3 z4 z5, rw6 y0 y1 y2 y3 y4 y5, c2, c3, c4]⟩ = SL z0 z1 z2 z3 z4 z5 y0 y1 y2 y3 y4 y5 (.v (.int .i64 0)) .any .any) (K (.exit 0) (SL z0 z1 z2 z3 z4 z5 y0 y1 y2 y3 y4 y5 (.v (.int .i64 14)) .any .any))
  | _ => False
noncomputable def Lt0 : Loops := [(0, blk Try.prog 7 0, F0)]
def nKn (K : Value → Prop) : Prop := runL Try.prog TKn EE true Lt0 90 7 [] K
theorem nKn_eq (K : Value → Prop) : nKn K = (need (Go.Proofs.Ytceclodenhgoeaa.ScP.MayS 2147483648 0 2147483648 2147483648 (IntKind.wrap .i64 2147483648) (IntKind.wrap .i64 2147483648) ∧ Go.Proofs.Ytceclodenhgoeaa.ScP.MayS 2 0 2 2 (IntKind.wrap .i64 2) (IntKind.wrap .i64 2)) (al fun x => al fun x_1 => al fun x_2 => al fun x_3 => al fun x_4 => al fun x_5 => im (Go.Proofs.Ytceclodenhgoeaa.ScUj.AlP 2 false 2147483648 0 2147483648 2147483648 (IntKind.wrap .i64 2147483648) (IntKind.wrap .i64 2147483648) 2 0 2 2 (IntKind.wrap .i64 2) (IntKind.wrap .i64 2) x x_1 x_2 x_3 x_4 x_5) (al fun x_6 => al fun x_7 => im (Go.Proofs.Ytceclodenhgoeaa.ScV.IsP x x_1 x_2 x_3 x_4 x_5 x_6 x_7) (need (Go.Proofs.Ytceclodenhgoeaa.ScP.MayS 1 0 1 1 (IntKind.wrap .i64 1) (IntKind.wrap .i64 1) ∧ Go.Proofs.Ytceclodenhgoeaa.ScP.MayS 2 0 2 2 (IntKind.wrap .i64 2) (IntKind.wrap .i64 2)) (al fun x => al fun x_8 => al fun x_9 => al fun x_10 => al fun x_11 => al fun x_12 => al fun x_13 => al fun x_14 => al fun x_15 => al fun x_16 => al fun x_17 => al fun x_18 => al fun x_19 => im (Go.Proofs.Ytceclodenhgoeaa.ScAd.BrP 1 true true 1 0 1 1 (IntKind.wrap .i64 1) (IntKind.wrap .i64 1) 2 0 2 2 (IntKind.wrap .i64 2) (IntKind.wrap .i64 2) x x_8 x_9 x_10 x_11 x_12 x_13 x_14 x_15 x_16 x_17 x_18 x_19) (need (Go.Proofs.Ytceclodenhgoeaa.ScUo.lit6 0 255 0 255 0 255 0 255 0 255 0 255 ∧ Go.Proofs.Ytceclodenhgoeaa.ScUo.lit6 0 0 0 0 (IntKind.wrap .i64 0) (IntKind.wrap .i64 0) 0 0 0 0 0 0) (ob (!!x_7) (!!x_7) (ob (!!x_7) (!!x_7) (ob (!x_7) true (ob (!!x_7) (!!x_7) (nm (bif !x_7 then true else x_6 != 0) fun r => ob r true (ob (!r) (!r) (nm (bif r then true else x_19) fun r => ob (!r) (!r) (ob r true (ob (!r) (!r) (nm (bif r then true else false) fun r => ob (!r) (!r) (ob (!r) (!r) (ob (!r) (!r) (ob r true (ob (!r) (!r) (nm (bif r then true else !(fun x => 1 == 1 && x) (255 == 255)) fun r => ob (!r) (!r) (ob (!r) (!r) (ob r true (ob (!r) (!r) (nm (bif r then true else !(fun x => (fun x => 0 == 0 && x) (0 == 0) && x) ((fun x => (fun x => 0 == 0 && x) (0 == 0) && x) ((fun x => 0 == IntKind.wrap .i64 0 && x) (0 == IntKind.wrap .i64 0)))) fun r => ob (!r) (!r) (ob (!r) (!r) (need (Go.Proofs.Ytceclodenhgoeaa.ScUo.lit6 0 18446744073709551615 0 18446744073709551615 (-9223372036854775808) 9223372036854775807 0 18446744073709551615 0 18446744073709551615 (-9223372036854775808) 9223372036854775807 ∧ Go.Proofs.Ytceclodenhgoeaa.ScUo.lit6 255 0 255 255 (IntKind.wrap .i64 255) (IntKind.wrap .i64 255) 255 0 255 255 255 255) (ob (!r) (!r) (ob (!r) (!r) (ob r true (ob (!r) (!r) (nm (bif r then true else !(fun x => (fun x => 0 == 0 && x) (255 == 255) && x) ((fun x => (fun x => 0 == 0 && x) (255 == 255) && x) ((fun x => 0 == 0 && x) (255 == 255)))) fun r => br r (K (.bool false)) (same (blk Go.Proofs.Try.prog 7 0) (blk Go.Proofs.Try.prog 7 0) (need (St.mk [AV.any, AV.any, AV.any, AV.any, AV.any, AV.any, AV.any, AV.any, AV.any, AV.sl 4 0 10 10, AV.v (.int .i64 0), AV.any, AV.any, AV.any, AV.any, AV.any, AV.any, AV.any, AV.any, AV.any, AV.any, AV.any, AV.any, AV.any, AV.any, AV.any, AV.any, AV.any, AV.any, AV.any, AV.any, AV.any, AV.any, AV.any, AV.any, AV.any, AV.any, AV.any, AV.any, AV.any, AV.any, AV.any, AV.any, AV.any, AV.any, AV.any, AV.any, AV.any, AV.any, AV.any, AV.any, AV.any, AV.any, AV.any, AV.any, AV.any, AV.any, AV.any, AV.any, AV.any, AV.any, AV.any, AV.any, AV.any, AV.any, AV.any, AV.any, AV.any, AV.any, AV.any, AV.any, AV.any, AV.any, AV.any, AV.any, AV.any, AV.any, AV.any, AV.any, AV.any, AV.any, AV.any, AV.any, AV.any, AV.any, AV.any, AV.any, AV.any, AV.any, AV.any, AV.any, AV.any, AV.any, AV.any, AV.any, AV.any, AV.any, AV.any, AV.any, AV.any, AV.any, AV.any, AV.any, AV.any, AV.any, AV.any, AV.any, AV.any, AV.any, AV.any, AV.any, AV.any, AV.any, AV.any, AV.any, AV.any, AV.any, AV.any, AV.any, AV.any, AV.any, AV.any, AV.any, AV.any, AV.any, AV.any, AV.any, AV.any, AV.any, AV.any, AV.any, AV.any, AV.any, AV.any, AV.any, AV.any, AV.any, AV.any, AV.any, AV.any, AV.any, AV.any, AV.any, AV.any, AV.any, AV.any, AV.any, AV.any, AV.any, AV.any, AV.any, AV.any, AV.any, AV.any] [[AV.v (.int .u64 x), AV.v (.int .u64 x_8), AV.v (.int .u64 x_9), AV.v (.int .u64 x_10), AV.v (.int .i64 x_11), AV.v (.int .i64 x_12)], [AV.v (.int .u64 x_13), AV.v (.int .u64 x_14), AV.v (.int .u64 x_15), AV.v (.int .u64 x_16), AV.v (.int .i64 x_17), AV.v (.int .i64 x_18)], [AV.v (.int .u64 0), AV.v (.int .u64 255), AV.v (.int .u64 1), AV.v (.int .u64 255), AV.v (.int .i64 1), AV.v (.int .i64 255)], [AV.v (.int .u64 0), AV.v (.int .u64 0), AV.v (.int .u64 0), AV.v (.int .u64 0), AV.v (.int .i64 0), AV.v (.int .i64 0)], [AV.v (.int .u64 0), AV.v (.int .u64 1), AV.v (.int .u64 2), AV.v (.int .u64 2147483647), AV.v (.int .u64 2147483648), AV.v (.int .u64 4294967295), AV.v (.int .u64 4294967296), AV.v (.int .u64 9223372036854775807), AV.v (.int .u64 9223372036854775808), AV.v (.int .u64 18446744073709551615)]] = St.mk [AV.any, AV.any, AV.any, AV.any, AV.any, AV.any, AV.any, AV.any, AV.any, AV.sl 4 0 10 10, AV.v (.int .i64 0), AV.any, AV.any, AV.any, AV.any, AV.any, AV.any, AV.any, AV.any, AV.any, AV.any, AV.any, AV.any, AV.any, AV.any, AV.any, AV.any, AV.any, AV.any, AV.any, AV.any, AV.any, AV.any, AV.any, AV.any, AV.any, AV.any, AV.any, AV.any, AV.any, AV.any, AV.any, AV.any, AV.any, AV.any, AV.any, AV.any, AV.any, AV.any, AV.any, AV.any, AV.any, AV.any, AV.any, AV.any, AV.any, AV.any, AV.any, AV.any, AV.any, AV.any, AV.any, AV.any, AV.any, AV.any, AV.any, AV.any, AV.any, AV.any, AV.any, AV.any, AV.any, AV.any, AV.any, AV.any, AV.any, AV.any, AV.any, AV.any, AV.any, AV.any, AV.any, AV.any, AV.any, AV.any, AV.any, AV.any, AV.any, AV.any, AV.any, AV.any, AV.any, AV.any, AV.any, AV.any, AV.any, AV.any, AV.any, AV.any, AV.any, AV.any, AV.any, AV.any, AV.any, AV.any, AV.any, AV.any, AV.any, AV.any, AV.any, AV.any, AV.any, AV.any, AV.any, AV.any, AV.any, AV.any, AV.any, AV.any, AV.any, AV.any, AV.any, AV.any, AV.any, AV.any, AV.any, AV.any, AV.any, AV.any, AV.any, AV.any, AV.any, AV.any, AV.any, AV.any, AV.any, AV.any, AV.any, AV.any, AV.any, AV.any, AV.any, AV.any, AV.any, AV.any, AV.any, AV.any, AV.any, AV.any, AV.any, AV.any, AV.any, AV.any, AV.any] [[AV.v (.int .u64 x), AV.v (.int .u64 x_8), AV.v (.int .u64 x_9), AV.v (.int .u64 x_10), AV.v (.int .i64 x_11), AV.v (.int .i64 x_12)], [AV.v (.int .u64 x_13), AV.v (.int .u64 x_14), AV.v (.int .u64 x_15), AV.v (.int .u64 x_16), AV.v (.int .i64 x_17), AV.v (.int .i64 x_18)], [AV.v (.int .u64 0), AV.v (.int .u64 255), AV.v (.int .u64 1), AV.v (.int .u64 255), AV.v (.int .i64 1), AV.v (.int .i64 255)], [AV.v (.int .u64 0), AV.v (.int .u64 0), AV.v (.int .u64 0), AV.v (.int .u64 0), AV.v (.int .i64 0), AV.v (.int .i64 0)], [AV.v (.int .u64 0), AV.v (.int .u64 1), AV.v (.int .u64 2), AV.v (.int .u64 2147483647), AV.v (.int .u64 2147483648), AV.v (.int .u64 4294967295), AV.v (.int .u64 4294967296), AV.v (.int .u64 9223372036854775807), AV.v (.int .u64 9223372036854775808), AV.v (.int .u64 18446744073709551615)]]) (K (.bool true)))))))))))))))))))))))))))))))))))) := by kernel_rfl
end Go.Proofs.Ytceclodenhgoeaa.ScUp
end
section
/- Layer 5: two closed calls, run. -/
namespace Go.Proofs.Ytceclodenhgoeaa.ScUn
open Go Go.Proofs Go.Proofs.Ytceclodenhgoeaa.Xc Go.Proofs.Ytceclodenhgoeaa.Sc
set_option maxRecDepth 100000
def nB2 (K : Value → Prop) : Prop := run Try.prog [] EE false 90 10 [.int .i64 1, .bool true, .bool false, Sc 0 255 0 255 0 255, Sc 0 0 0 0 0 0] K
theorem nB2_eq (K : Value → Prop) : nB2 K = (ob false true (ob true true (ob false true (ob true true (ob false true (ob true true (ob false true (ob true true (ob false true (ob true true (ob false true (ob true true (ob true true (ob true true (ob false true (ob true true (ob false true (ob true true (ob false true (ob true true (ob false true (ob true true (ob false true (ob true true (ob true true (ob false true (ob true true (ob false true (ob true true (ob false true (ob true true (ob false true (ob true true (ob false true (ob true true (ob false true (ob true true (ob false true (ob true true (ob false true (ob false true (ob true true (ob false true (ob true true (ob true true (ob false true (ob true true (ob true true (ob true true (ob true true (ob true true (ob true true (ob true true (ob true true (ob true true (ob true true (ob true true (ob true true (ob true true (ob true true (ob true true (ob true true (ob true true (ob true true (ob true true (ob true true (ob true true (ob true true (ob true true (ob true true (ob true true (ob true true (ob true true (ob true true (ob true true (ob true true (ob true true (ob true true (ob true true (ob true true (ob true true (ob true true (K (.tuple (#[.agg (#[.int .u64 0, .int .u64 255, .int .u64 1, .int .u64 255, .int .i64 1, .int .i64 255]), .agg (#[.int .u64 0, .int .u64 0, .int .u64 0, .int .u64 0, .int .i64 0, .int .i64 0]), .bool true]))))))))))))))))))))))))))))))))))))))))))))))))))))))))))))))))))))))))))))))))))))) := by kernel_rfl
def nA2 (K : Value → Prop) : Prop := run Try.prog [] EE false 90 18 [.int .i64 5, .bool true, Sc 0 18446744073709551615 0 18446744073709551615 (-9223372036854775808) 9223372036854775807, Sc 255 0 255 255 255 255] K
theorem nA2_eq (K : Value → Prop) : nA2 K = (ob false true (ob true true (ob false true (ob true true (ob false true (ob true true (ob false true (ob true true (ob true true (ob true true (ob true true (ob true true (ob true true (ob true true (ob true true (ob true true (ob true true (ob true true (ob true true (ob true true (ob true true (ob true true (ob true true (ob true true (ob true true (ob true true (K (.agg (#[.int .u64 0, .int .u64 255, .int .u64 0, .int .u64 255, .int .i64 0, .int .i64 255]))))))))))))))))))))))))))))) := by kernel_rfl
end Go.Proofs.Ytceclodenhgoeaa.ScUn
end
section
/- Layer 5: ScalarKnown, the law. -/
namespace Go.Proofs.Ytceclodenhgoeaa.ScUq
open Go Go.RowKit Go.Proofs Go.Proofs.Ytceclodenhgoeaa.Xc Go.Proofs.Ytceclodenhgoeaa.Sc Go.Proofs.Ytceclodenhgoeaa.ScS Go.Proofs.Ytceclodenhgoeaa.ScB Go.Proofs.Ytceclodenhgoeaa.ScK Go.Proofs.Ytceclodenhgoeaa.ScF Go.Proofs.Ytceclodenhgoeaa.ScG Go.Proofs.Ytceclodenhgoeaa.ScP Go.Proofs.Ytceclodenhgoeaa.ScUc Go.Proofs.Ytceclodenhgoeaa.ScUe Go.Proofs.Ytceclodenhgoeaa.ScUf Go.Proofs.Ytceclodenhgoeaa.ScUi Go.Proofs.Ytceclodenhgoeaa.ScUj Go.Proofs.Ytceclodenhgoeaa.ScUk Go.Proofs.Ytceclodenhgoeaa.ScUl Go.Proofs.Ytceclodenhgoeaa.ScUm Go.Proofs.Ytceclodenhgoeaa.ScUn Go.Proofs.Ytceclodenhgoeaa.ScUo Go.Proofs.Ytceclodenhgoeaa.ScUp Go.Proofs.Ytceclodenhgoeaa.ScV Go.Proofs.Ytceclodenhgoeaa.ScY Go.Proofs.Ytceclodenhgoeaa.ScAc Go.Proofs.Ytceclodenhgoeaa.ScAd Go.Proofs.Ytceclodenhgoeaa.ScAe Go.Proofs.Ytceclodenhgoeaa.ScAf
set_option linter.unusedVariables false
set_option linter.unusedSimpArgs false
theorem uB_u {x : Int} (h : uB x = true) : uu x := by
  unfold uB at h
  rw [Bool.and_eq_true] at h
  exact ⟨of_decide_eq_true h.1, of_decide_eq_true h.2⟩
theorem sB_s {x : Int} (h : sB x = true) : ss x := by
  unfold sB at h
  rw [Bool.and_eq_true] at h
  exact ⟨of_decide_eq_true h.1, of_decide_eq_true h.2⟩
theorem gB_g {a b c d e f : Int} (h : gB a b c d e f = true) : rng a b c d e f := by
  unfold gB at h
  simp only [Bool.and_eq_true] at h
  obtain ⟨⟨⟨⟨⟨h1, h2⟩, h3⟩, h4⟩, h5⟩, h6⟩ := h
  exact ⟨uB_u h1, uB_u h2, uB_u h3, uB_u h4, sB_s h5, sB_s h6⟩
theorem oB2 (K : Value → Prop) (h : K (.tuple #[Sc 0 255 1 255 1 255, Sc 0 0 0 0 0 0, .bool true])) : nB2 K := by
  rw [nB2_eq]; (repeat (first | refine ob_self ?_ | refine ob_true ?_ | (refine nm_intro ?_; intro _ _))); exact h
theorem oA2 (K : Value → Prop) (h : K (Sc 0 255 0 255 0 255)) : nA2 K := by
  rw [nA2_eq]; (repeat (first | refine ob_self ?_ | refine ob_true ?_ | (refine nm_intro ?_; intro _ _))); exact h
theorem tkn : TabOk Try.prog TKn := by
  refine tab_run good (by kernel_rfl) (fun vs K h => ?_) (tab_run good (by kernel_rfl) (fun vs K h => ?_) (tab_run good (by kernel_rfl) (fun vs K h => ?_) (tab_run good (by kernel_rfl) (fun vs K h => ?_) (tab_runK good (by kernel_rfl) (fun vs K h => ?_) (tab_run good (by kernel_rfl) (fun vs K h => ?_) (tab_runK good (by kernel_rfl) (fun vs K h => ?_) (tab_runK good (by kernel_rfl) (fun vs K h => ?_) (tab_runK good (by kernel_rfl) (fun vs K h => ?_) tab_nil))))))))
  all_goals split at h
  all_goals try exact h.elim
  · have o := oknown; unfold nknown at o; exact ⟨_, h, [], EE, false, 90, tab_nil, ee, o⟩
  · rename_i op wide a b c d e f a' b' c' d' e' f' v w
    split at h
    · rename_i hg
      simp only [Bool.and_eq_true] at hg
      obtain ⟨⟨⟨h1, h2⟩, h3⟩, h4⟩ := hg
      have o := oBrs op wide a b c d e f a' b' c' d' e' f' v w (gB_g h1) (gB_g h2) (uB_u h3) (uB_u h4)
      unfold nBrs at o; exact ⟨_, h, TW, EE, true, 90, tw, ee, o⟩
    · exact h.elim
  · rename_i op wide a b c d e f a' b' c' d' e' f' v w
    split at h
    · rename_i hg
      simp only [Bool.and_eq_true] at hg
      obtain ⟨⟨⟨h1, h2⟩, h3⟩, h4⟩ := hg
      have o := oSound op wide a b c d e f a' b' c' d' e' f' v w (gB_g h1) (gB_g h2) (uB_u h3) (uB_u h4)
      unfold nSound at o; exact ⟨_, h, ScUk.TS, EE, true, 90, ts, ee, o⟩
    · exact h.elim
  · rename_i op wide v w
    split at h
    · rename_i hg
      simp only [Bool.and_eq_true] at hg
      have o := oAlone op wide v w (uB_u hg.1) (uB_u hg.2)
      unfold nAlone at o; exact ⟨_, h, ScUk.TS, EE, true, 90, ts, ee, o⟩
    · exact h.elim
  · rename_i v
    have o : nOf v K := by rw [nOf_eq]; exact h
    unfold nOf at o; exact ⟨[], EE, true, 90, tab_nil, ee, o⟩
  · have o := oUpto 1
    rw [show upm 1 = 255 by decide, show upl 1 = 0 by decide, show uph 1 = 255 by decide] at o
    unfold nUpto at o; exact ⟨_, h, [], EE, true, 90, tab_nil, ee, o⟩
  · rename_i a b c d e f
    have o := rIs a b c d e f K h
    unfold nIs at o; exact ⟨[], EE, true, 90, tab_nil, ee, o⟩
  · rename_i a b c d e f a' b' c' d' e' f'
    obtain ⟨⟨M, M'⟩, h⟩ := h
    have o := rBranch 1 true true a b c d e f a' b' c' d' e' f' K M M' h
    unfold nBranch at o; exact ⟨TBr, EE, true, 90, tbr, ee, o⟩
  · rename_i a b c d e f a' b' c' d' e' f'
    obtain ⟨⟨⟨rfl, rfl, rfl, rfl, rfl, rfl⟩, rfl, rfl, rfl, rfl, rfl, rfl⟩, h⟩ := h
    have o := oB2 K h
    unfold nB2 at o; exact ⟨[], EE, false, 90, tab_nil, ee, o⟩
  · rename_i a b c d e f a' b' c' d' e' f'
    obtain ⟨⟨M, M'⟩, h⟩ := h
    obtain ⟨T, hT, o⟩ := rAlu 2 false a b c d e f a' b' c' d' e' f' K M M' h
    exact ⟨T, EE, true, 90, hT, ee, o⟩
  · rename_i a b c d e f a' b' c' d' e' f'
    obtain ⟨⟨⟨rfl, rfl, rfl, rfl, rfl, rfl⟩, rfl, rfl, rfl, rfl, rfl, rfl⟩, h⟩ := h
    have o := oA2 K h
    unfold nA2 at o; exact ⟨[], EE, false, 90, tab_nil, ee, o⟩
theorem ob17_mk {A : Prop} (h : A) : ob17 A := by
  unfold ob17; (repeat (first | refine ob_self ?_ | refine ob_true ?_ | (refine nm_intro ?_; intro _ _))); exact h
theorem blk4 : blk Try.prog 7 4 = .loop body4 := by kernel_rfl
theorem blk2 : blk Try.prog 7 2 = .loop body2 := by kernel_rfl
theorem blk0 : blk Try.prog 7 0 = .loop body0 := by kernel_rfl
theorem ten {k : Int} (h : 0 ≤ k ∧ k < 10) : k = 0 ∨ k = 1 ∨ k = 2 ∨ k = 3 ∨ k = 4 ∨ k = 5 ∨ k = 6 ∨ k = 7 ∨ k = 8 ∨ k = 9 := by omega
theorem row0 (z0 z1 z2 z3 z4 z5 y0 y1 y2 y3 y4 y5 : Int) (op k : Int) (Q : Exit → St → Prop) (hk : 0 ≤ k ∧ k < 10) (h : Q .normal (SL z0 z1 z2 z3 z4 z5 y0 y1 y2 y3 y4 y5 (.v (.int .i64 op)) (.v (.int .i64 0)) (.v (.int .i64 (k + 1))))) : nRd z0 z1 z2 z3 z4 z5 y0 y1 y2 y3 y4 y5 op 0 k Q := by
  rcases ten hk with rfl | rfl | rfl | rfl | rfl | rfl | rfl | rfl | rfl | rfl
  · rw [ScUoa.d0_0]; exact ob17_mk h
  · rw [ScUoa.d0_1]; exact ob17_mk h
  · rw [ScUoa.d0_2]; exact ob17_mk h
  · rw [ScUoa.d0_3]; exact ob17_mk h
  · rw [ScUoa.d0_4]; exact ob17_mk h
  · rw [ScUoa.d0_5]; exact ob17_mk h
  · rw [ScUoa.d0_6]; exact ob17_mk h
  · rw [ScUoa.d0_7]; exact ob17_mk h
  · rw [ScUoa.d0_8]; exact ob17_mk h
  · rw [ScUoa.d0_9]; exact ob17_mk h
theorem row1 (z0 z1 z2 z3 z4 z5 y0 y1 y2 y3 y4 y5 : Int) (op k : Int) (Q : Exit → St → Prop) (hk : 0 ≤ k ∧ k < 10) (h : Q .normal (SL z0 z1 z2 z3 z4 z5 y0 y1 y2 y3 y4 y5 (.v (.int .i64 op)) (.v (.int .i64 1)) (.v (.int .i64 (k + 1))))) : nRd z0 z1 z2 z3 z4 z5 y0 y1 y2 y3 y4 y5 op 1 k Q := by
  rcases ten hk with rfl | rfl | rfl | rfl | rfl | rfl | rfl | rfl | rfl | rfl
  · rw [ScUoa.d1_0]; exact ob17_mk h
  · rw [ScUoa.d1_1]; exact ob17_mk h
  · rw [ScUoa.d1_2]; exact ob17_mk h
  · rw [ScUoa.d1_3]; exact ob17_mk h
  · rw [ScUoa.d1_4]; exact ob17_mk h
  · rw [ScUoa.d1_5]; exact ob17_mk h
  · rw [ScUoa.d1_6]; exact ob17_mk h
  · rw [ScUoa.d1_7]; exact ob17_mk h
  · rw [ScUoa.d1_8]; exact ob17_mk h
  · rw [ScUoa.d1_9]; exact ob17_mk h
theorem row2 (z0 z1 z2 z3 z4 z5 y0 y1 y2 y3 y4 y5 : Int) (op k : Int) (Q : Exit → St → Prop) (hk : 0 ≤ k ∧ k < 10) (h : Q .normal (SL z0 z1 z2 z3 z4 z5 y0 y1 y2 y3 y4 y5 (.v (.int .i64 op)) (.v (.int .i64 2)) (.v (.int .i64 (k + 1))))) : nRd z0 z1 z2 z3 z4 z5 y0 y1 y2 y3 y4 y5 op 2 k Q := by
  rcases ten hk with rfl | rfl | rfl | rfl | rfl | rfl | rfl | rfl | rfl | rfl
  · rw [ScUoa.d2_0]; exact ob17_mk h
  · rw [ScUoa.d2_1]; exact ob17_mk h
  · rw [ScUoa.d2_2]; exact ob17_mk h
  · rw [ScUoa.d2_3]; exact ob17_mk h
  · rw [ScUoa.d2_4]; exact ob17_mk h
  · rw [ScUoa.d2_5]; exact ob17_mk h
  · rw [ScUoa.d2_6]; exact ob17_mk h
  · rw [ScUoa.d2_7]; exact ob17_mk h
  · rw [ScUoa.d2_8]; exact ob17_mk h
  · rw [ScUoa.d2_9]; exact ob17_mk h
theorem row3 (z0 z1 z2 z3 z4 z5 y0 y1 y2 y3 y4 y5 : Int) (op k : Int) (Q : Exit → St → Prop) (hk : 0 ≤ k ∧ k < 10) (h : Q .normal (SL z0 z1 z2 z3 z4 z5 y0 y1 y2 y3 y4 y5 (.v (.int .i64 op)) (.v (.int .i64 3)) (.v (.int .i64 (k + 1))))) : nRd z0 z1 z2 z3 z4 z5 y0 y1 y2 y3 y4 y5 op 3 k Q := by
  rcases ten hk with rfl | rfl | rfl | rfl | rfl | rfl | rfl | rfl | rfl | rfl
  · rw [ScUob.d3_0]; exact ob17_mk h
  · rw [ScUob.d3_1]; exact ob17_mk h
  · rw [ScUob.d3_2]; exact ob17_mk h
  · rw [ScUob.d3_3]; exact ob17_mk h
  · rw [ScUob.d3_4]; exact ob17_mk h
  · rw [ScUob.d3_5]; exact ob17_mk h
  · rw [ScUob.d3_6]; exact ob17_mk h
  · rw [ScUob.d3_7]; exact ob17_mk h
  · rw [ScUob.d3_8]; exact ob17_mk h
  · rw [ScUob.d3_9]; exact ob17_mk h
theorem row4 (z0 z1 z2 z3 z4 z5 y0 y1 y2 y3 y4 y5 : Int) (op k : Int) (Q : Exit → St → Prop) (hk : 0 ≤ k ∧ k < 10) (h : Q .normal (SL z0 z1 z2 z3 z4 z5 y0 y1 y2 y3 y4 y5 (.v (.int .i64 op)) (.v (.int .i64 4)) (.v (.int .i64 (k + 1))))) : nRd z0 z1 z2 z3 z4 z5 y0 y1 y2 y3 y4 y5 op 4 k Q := by
  rcases ten hk with rfl | rfl | rfl | rfl | rfl | rfl | rfl | rfl | rfl | rfl
  · rw [ScUob.d4_0]; exact ob17_mk h
  · rw [ScUob.d4_1]; exact ob17_mk h
  · rw [ScUob.d4_2]; exact ob17_mk h
  · rw [ScUob.d4_3]; exact ob17_mk h
  · rw [ScUob.d4_4]; exact ob17_mk h
  · rw [ScUob.d4_5]; exact ob17_mk h
  · rw [ScUob.d4_6]; exact ob17_mk h
  · rw [ScUob.d4_7]; exact ob17_mk h
  · rw [ScUob.d4_8]; exact ob17_mk h
  · rw [ScUob.d4_9]; exact ob17_mk h
theorem row5 (z0 z1 z2 z3 z4 z5 y0 y1 y2 y3 y4 y5 : Int) (op k : Int) (Q : Exit → St → Prop) (hk : 0 ≤ k ∧ k < 10) (h : Q .normal (SL z0 z1 z2 z3 z4 z5 y0 y1 y2 y3 y4 y5 (.v (.int .i64 op)) (.v (.int .i64 5)) (.v (.int .i64 (k + 1))))) : nRd z0 z1 z2 z3 z4 z5 y0 y1 y2 y3 y4 y5 op 5 k Q := by
  rcases ten hk with rfl | rfl | rfl | rfl | rfl | rfl | rfl | rfl | rfl | rfl
  · rw [ScUob.d5_0]; exact ob17_mk h
  · rw [ScUob.d5_1]; exact ob17_mk h
  · rw [ScUob.d5_2]; exact ob17_mk h
  · rw [ScUob.d5_3]; exact ob17_mk h
  · rw [ScUob.d5_4]; exact ob17_mk h
  · rw [ScUob.d5_5]; exact ob17_mk h
  · rw [ScUob.d5_6]; exact ob17_mk h
  · rw [ScUob.d5_7]; exact ob17_mk h
  · rw [ScUob.d5_8]; exact ob17_mk h
  · rw [ScUob.d5_9]; exact ob17_mk h
theorem row6 (z0 z1 z2 z3 z4 z5 y0 y1 y2 y3 y4 y5 : Int) (op k : Int) (Q : Exit → St → Prop) (hk : 0 ≤ k ∧ k < 10) (h : Q .normal (SL z0 z1 z2 z3 z4 z5 y0 y1 y2 y3 y4 y5 (.v (.int .i64 op)) (.v (.int .i64 6)) (.v (.int .i64 (k + 1))))) : nRd z0 z1 z2 z3 z4 z5 y0 y1 y2 y3 y4 y5 op 6 k Q := by
  rcases ten hk with rfl | rfl | rfl | rfl | rfl | rfl | rfl | rfl | rfl | rfl
  · rw [ScUoc.d6_0]; exact ob17_mk h
  · rw [ScUoc.d6_1]; exact ob17_mk h
  · rw [ScUoc.d6_2]; exact ob17_mk h
  · rw [ScUoc.d6_3]; exact ob17_mk h
  · rw [ScUoc.d6_4]; exact ob17_mk h
  · rw [ScUoc.d6_5]; exact ob17_mk h
  · rw [ScUoc.d6_6]; exact ob17_mk h
  · rw [ScUoc.d6_7]; exact ob17_mk h
  · rw [ScUoc.d6_8]; exact ob17_mk h
  · rw [ScUoc.d6_9]; exact ob17_mk h
theorem row7 (z0 z1 z2 z3 z4 z5 y0 y1 y2 y3 y4 y5 : Int) (op k : Int) (Q : Exit → St → Prop) (hk : 0 ≤ k ∧ k < 10) (h : Q .normal (SL z0 z1 z2 z3 z4 z5 y0 y1 y2 y3 y4 y5 (.v (.int .i64 op)) (.v (.int .i64 7)) (.v (.int .i64 (k + 1))))) : nRd z0 z1 z2 z3 z4 z5 y0 y1 y2 y3 y4 y5 op 7 k Q := by
  rcases ten hk with rfl | rfl | rfl | rfl | rfl | rfl | rfl | rfl | rfl | rfl
  · rw [ScUoc.d7_0]; exact ob17_mk h
  · rw [ScUoc.d7_1]; exact ob17_mk h
  · rw [ScUoc.d7_2]; exact ob17_mk h
  · rw [ScUoc.d7_3]; exact ob17_mk h
  · rw [ScUoc.d7_4]; exact ob17_mk h
  · rw [ScUoc.d7_5]; exact ob17_mk h
  · rw [ScUoc.d7_6]; exact ob17_mk h
  · rw [ScUoc.d7_7]; exact ob17_mk h
  · rw [ScUoc.d7_8]; exact ob17_mk h
  · rw [ScUoc.d7_9]; exact ob17_mk h
theorem row8 (z0 z1 z2 z3 z4 z5 y0 y1 y2 y3 y4 y5 : Int) (op k : Int) (Q : Exit → St → Prop) (hk : 0 ≤ k ∧ k < 10) (h : Q .normal (SL z0 z1 z2 z3 z4 z5 y0 y1 y2 y3 y4 y5 (.v (.int .i64 op)) (.v (.int .i64 8)) (.v (.int .i64 (k + 1))))) : nRd z0 z1 z2 z3 z4 z5 y0 y1 y2 y3 y4 y5 op 8 k Q := by
  rcases ten hk with rfl | rfl | rfl | rfl | rfl | rfl | rfl | rfl | rfl | rfl
  · rw [ScUod.d8_0]; exact ob17_mk h
  · rw [ScUod.d8_1]; exact ob17_mk h
  · rw [ScUod.d8_2]; exact ob17_mk h
  · rw [ScUod.d8_3]; exact ob17_mk h
  · rw [ScUod.d8_4]; exact ob17_mk h
  · rw [ScUod.d8_5]; exact ob17_mk h
  · rw [ScUod.d8_6]; exact ob17_mk h
  · rw [ScUod.d8_7]; exact ob17_mk h
  · rw [ScUod.d8_8]; exact ob17_mk h
  · rw [ScUod.d8_9]; exact ob17_mk h
theorem row9 (z0 z1 z2 z3 z4 z5 y0 y1 y2 y3 y4 y5 : Int) (op k : Int) (Q : Exit → St → Prop) (hk : 0 ≤ k ∧ k < 10) (h : Q .normal (SL z0 z1 z2 z3 z4 z5 y0 y1 y2 y3 y4 y5 (.v (.int .i64 op)) (.v (.int .i64 9)) (.v (.int .i64 (k + 1))))) : nRd z0 z1 z2 z3 z4 z5 y0 y1 y2 y3 y4 y5 op 9 k Q := by
  rcases ten hk with rfl | rfl | rfl | rfl | rfl | rfl | rfl | rfl | rfl | rfl
  · rw [ScUod.d9_0]; exact ob17_mk h
  · rw [ScUod.d9_1]; exact ob17_mk h
  · rw [ScUod.d9_2]; exact ob17_mk h
  · rw [ScUod.d9_3]; exact ob17_mk h
  · rw [ScUod.d9_4]; exact ob17_mk h
  · rw [ScUod.d9_5]; exact ob17_mk h
  · rw [ScUod.d9_6]; exact ob17_mk h
  · rw [ScUod.d9_7]; exact ob17_mk h
  · rw [ScUod.d9_8]; exact ob17_mk h
  · rw [ScUod.d9_9]; exact ob17_mk h
theorem rows (z0 z1 z2 z3 z4 z5 y0 y1 y2 y3 y4 y5 : Int) (op i k : Int) (Q : Exit → St → Prop) (hi : 0 ≤ i ∧ i < 10) (hk : 0 ≤ k ∧ k < 10) (h : Q .normal (SL z0 z1 z2 z3 z4 z5 y0 y1 y2 y3 y4 y5 (.v (.int .i64 op)) (.v (.int .i64 i)) (.v (.int .i64 (k + 1))))) : nRd z0 z1 z2 z3 z4 z5 y0 y1 y2 y3 y4 y5 op i k Q := by
  rcases ten hi with rfl | rfl | rfl | rfl | rfl | rfl | rfl | rfl | rfl | rfl
  · exact row0 z0 z1 z2 z3 z4 z5 y0 y1 y2 y3 y4 y5 op k Q hk h
  · exact row1 z0 z1 z2 z3 z4 z5 y0 y1 y2 y3 y4 y5 op k Q hk h
  · exact row2 z0 z1 z2 z3 z4 z5 y0 y1 y2 y3 y4 y5 op k Q hk h
  · exact row3 z0 z1 z2 z3 z4 z5 y0 y1 y2 y3 y4 y5 op k Q hk h
  · exact row4 z0 z1 z2 z3 z4 z5 y0 y1 y2 y3 y4 y5 op k Q hk h
  · exact row5 z0 z1 z2 z3 z4 z5 y0 y1 y2 y3 y4 y5 op k Q hk h
  · exact row6 z0 z1 z2 z3 z4 z5 y0 y1 y2 y3 y4 y5 op k Q hk h
  · exact row7 z0 z1 z2 z3 z4 z5 y0 y1 y2 y3 y4 y5 op k Q hk h
  · exact row8 z0 z1 z2 z3 z4 z5 y0 y1 y2 y3 y4 y5 op k Q hk h
  · exact row9 z0 z1 z2 z3 z4 z5 y0 y1 y2 y3 y4 y5 op k Q hk h
theorem okSL (z0 z1 z2 z3 z4 z5 y0 y1 y2 y3 y4 y5 : Int) (t10 t11 t12 : AV) (h1 : okV 5 t10 = true) (h2 : okV 5 t11 = true) (h3 : okV 5 t12 = true) : okSt (SL z0 z1 z2 z3 z4 z5 y0 y1 y2 y3 y4 y5 t10 t11 t12) = true := by
  unfold okSt
  rw [Bool.and_eq_true]
  refine ⟨?_, by kernel_rfl⟩
  show (([AV.any, .any, .any, .any, .any, .any, .any, .any, .any, .sl 4 0 10 10, t10, t11, t12] ++ List.replicate 141 AV.any).all (okV 5)) = true
  rw [List.all_append]
  simp only [List.all_cons, List.all_nil, h1, h2, h3]
  kernel_rfl
theorem lok4 : LOk Try.prog Lt4 := by
  refine lok_one fun s K hF => ?_
  unfold F4 at hF
  split at hF
  · split at hF
    · rename_i t z0 z1 z2 z3 z4 z5 y0 y1 y2 y3 y4 y5 c2 c3 c4 _ _ op i _ _
      obtain ⟨hs, hi, hK⟩ := hF
      have key := loop_ix (P := Try.prog) (c := body4) (fun k : Int => SL z0 z1 z2 z3 z4 z5 y0 y1 y2 y3 y4 y5 (.v (.int .i64 op)) (.v (.int .i64 i)) (.v (.int .i64 k))) (fun k => 0 ≤ k ∧ k ≤ 10) (fun k => (10 - k).toNat)
        (fun k e s' => e = .exit 4 ∧ s' = SL z0 z1 z2 z3 z4 z5 y0 y1 y2 y3 y4 y5 (.v (.int .i64 op)) (.v (.int .i64 i)) (.v (.int .i64 10))) ?_ 0 ⟨by omega, by omega⟩
      · obtain ⟨e, s', ⟨rfl, rfl⟩, hl⟩ := key
        refine ⟨_, _, hK, ?_⟩
        rw [blk4]
        refine keep_pre (ks := [9, 10, 11, 12]) (n := 100) (show 5 ≤ 100 by decide) (by rw [hs]; exact okSL _ _ _ _ _ _ _ _ _ _ _ _ _ _ _ rfl rfl rfl) ?_
        rw [hs]
        exact lw_of hl
      · intro k hk
        by_cases hk2 : k < 10
        · have o := rows z0 z1 z2 z3 z4 z5 y0 y1 y2 y3 y4 y5 op i k (fun e s1 => (e ≠ .normal ∧ (e = .exit 4 ∧ s1 = SL z0 z1 z2 z3 z4 z5 y0 y1 y2 y3 y4 y5 (.v (.int .i64 op)) (.v (.int .i64 i)) (.v (.int .i64 10)))) ∨ (e = .normal ∧ ∃ j : Int, s1 = SL z0 z1 z2 z3 z4 z5 y0 y1 y2 y3 y4 y5 (.v (.int .i64 op)) (.v (.int .i64 i)) (.v (.int .i64 j)) ∧ (0 ≤ j ∧ j ≤ 10) ∧ (10 - j).toNat < (10 - k).toNat ∧ ∀ (e' : Exit) (s' : St), (e' = .exit 4 ∧ s' = SL z0 z1 z2 z3 z4 z5 y0 y1 y2 y3 y4 y5 (.v (.int .i64 op)) (.v (.int .i64 i)) (.v (.int .i64 10))) → (e' = .exit 4 ∧ s' = SL z0 z1 z2 z3 z4 z5 y0 y1 y2 y3 y4 y5 (.v (.int .i64 op)) (.v (.int .i64 i)) (.v (.int .i64 10))))) hi ⟨hk.1, hk2⟩
            (Or.inr ⟨rfl, k + 1, rfl, ⟨by omega, by omega⟩, by omega, fun _ _ h => h⟩)
          unfold nRd at o
          exact rndL_sound good tkn ee lok_nil (by kernel_rfl) o
        · obtain rfl : k = 10 := by omega
          have o : nRo z0 z1 z2 z3 z4 z5 y0 y1 y2 y3 y4 y5 op i (fun e s1 => (e ≠ .normal ∧ (e = .exit 4 ∧ s1 = SL z0 z1 z2 z3 z4 z5 y0 y1 y2 y3 y4 y5 (.v (.int .i64 op)) (.v (.int .i64 i)) (.v (.int .i64 10)))) ∨ (e = .normal ∧ ∃ j : Int, s1 = SL z0 z1 z2 z3 z4 z5 y0 y1 y2 y3 y4 y5 (.v (.int .i64 op)) (.v (.int .i64 i)) (.v (.int .i64 j)) ∧ (0 ≤ j ∧ j ≤ 10) ∧ (10 - j).toNat < ((10 : Int) - 10).toNat ∧ ∀ (e' : Exit) (s' : St), (e' = .exit 4 ∧ s' = SL z0 z1 z2 z3 z4 z5 y0 y1 y2 y3 y4 y5 (.v (.int .i64 op)) (.v (.int .i64 i)) (.v (.int .i64 10))) → (e' = .exit 4 ∧ s' = SL z0 z1 z2 z3 z4 z5 y0 y1 y2 y3 y4 y5 (.v (.int .i64 op)) (.v (.int .i64 i)) (.v (.int .i64 10))))) := by
            rw [nRo_eq]
            exact Or.inl ⟨by simp, rfl, rfl⟩
          unfold nRo at o
          exact rndL_sound good tkn ee lok_nil (by kernel_rfl) o
    · exact hF.elim
  · exact hF.elim
theorem lok2 : LOk Try.prog Lt2 := by
  refine lok_one fun s K hF => ?_
  unfold F2 at hF
  split at hF
  · split at hF
    · rename_i t z0 z1 z2 z3 z4 z5 y0 y1 y2 y3 y4 y5 c2 c3 c4 _ op _
      obtain ⟨hs, hK⟩ := hF
      have key := loop_ix (P := Try.prog) (c := body2) (fun k : Int => SL z0 z1 z2 z3 z4 z5 y0 y1 y2 y3 y4 y5 (.v (.int .i64 op)) (.v (.int .i64 k)) .any) (fun k => 0 ≤ k ∧ k ≤ 10) (fun k => (10 - k).toNat)
        (fun k e s' => e = .exit 2 ∧ s' = SL z0 z1 z2 z3 z4 z5 y0 y1 y2 y3 y4 y5 (.v (.int .i64 op)) (.v (.int .i64 10)) .any) ?_ 0 ⟨by omega, by omega⟩
      · obtain ⟨e, s', ⟨rfl, rfl⟩, hl⟩ := key
        refine ⟨_, _, hK, ?_⟩
        rw [blk2]
        refine keep_pre (ks := [9, 10, 11]) (n := 100) (show 5 ≤ 100 by decide) (by rw [hs]; exact okSL _ _ _ _ _ _ _ _ _ _ _ _ _ _ _ rfl rfl rfl) ?_
        rw [hs]
        exact lw_of hl
      · intro k hk
        have o : nRi z0 z1 z2 z3 z4 z5 y0 y1 y2 y3 y4 y5 op k (fun e s1 => (e ≠ .normal ∧ (e = .exit 2 ∧ s1 = SL z0 z1 z2 z3 z4 z5 y0 y1 y2 y3 y4 y5 (.v (.int .i64 op)) (.v (.int .i64 10)) .any)) ∨ (e = .normal ∧ ∃ j : Int, s1 = SL z0 z1 z2 z3 z4 z5 y0 y1 y2 y3 y4 y5 (.v (.int .i64 op)) (.v (.int .i64 j)) .any ∧ (0 ≤ j ∧ j ≤ 10) ∧ (10 - j).toNat < (10 - k).toNat ∧ ∀ (e' : Exit) (s' : St), (e' = .exit 2 ∧ s' = SL z0 z1 z2 z3 z4 z5 y0 y1 y2 y3 y4 y5 (.v (.int .i64 op)) (.v (.int .i64 10)) .any) → (e' = .exit 2 ∧ s' = SL z0 z1 z2 z3 z4 z5 y0 y1 y2 y3 y4 y5 (.v (.int .i64 op)) (.v (.int .i64 10)) .any))) := by
          rw [nRi_eq]
          refine br_cases (fun q => ?_) (fun q => ?_)
          · have q : k < 10 := of_decide_eq_true q
            refine ⟨rfl, rfl, ⟨hk.1, q⟩, Or.inr ⟨rfl, IntKind.wrap .i64 (k + 1), rfl, ?_⟩⟩
            have e : IntKind.wrap .i64 (k + 1) = k + 1 := by have s := sw_eq (k + 1); simp only [sw] at s; rw [s]; omega
            rw [e]
            exact ⟨⟨by omega, by omega⟩, by omega, fun _ _ h => h⟩
          · have q : ¬ k < 10 := of_decide_eq_false q
            obtain rfl : k = 10 := by omega
            exact Or.inl ⟨by simp, rfl, rfl⟩
        unfold nRi at o
        exact rndL_sound good tkn ee lok4 (by kernel_rfl) o
    · exact hF.elim
  · exact hF.elim
theorem lok0 : LOk Try.prog Lt0 := by
  refine lok_one fun s K hF => ?_
  unfold F0 at hF
  split at hF
  · rename_i t z0 z1 z2 z3 z4 z5 y0 y1 y2 y3 y4 y5 c2 c3 c4
    obtain ⟨hs, hK⟩ := hF
    have key := loop_ix (P := Try.prog) (c := body0) (fun k : Int => SL z0 z1 z2 z3 z4 z5 y0 y1 y2 y3 y4 y5 (.v (.int .i64 k)) .any .any) (fun k => 0 ≤ k ∧ k ≤ 14) (fun k => (14 - k).toNat)
      (fun k e s' => e = .exit 0 ∧ s' = SL z0 z1 z2 z3 z4 z5 y0 y1 y2 y3 y4 y5 (.v (.int .i64 14)) .any .any) ?_ 0 ⟨by omega, by omega⟩
    · obtain ⟨e, s', ⟨rfl, rfl⟩, hl⟩ := key
      refine ⟨_, _, hK, ?_⟩
      rw [blk0]
      refine keep_pre (ks := [9, 10]) (n := 100) (show 5 ≤ 100 by decide) (by rw [hs]; exact okSL _ _ _ _ _ _ _ _ _ _ _ _ _ _ _ rfl rfl rfl) ?_
      rw [hs]
      exact lw_of hl
    · intro k hk
      have o : nRp z0 z1 z2 z3 z4 z5 y0 y1 y2 y3 y4 y5 k (fun e s1 => (e ≠ .normal ∧ (e = .exit 0 ∧ s1 = SL z0 z1 z2 z3 z4 z5 y0 y1 y2 y3 y4 y5 (.v (.int .i64 14)) .any .any)) ∨ (e = .normal ∧ ∃ j : Int, s1 = SL z0 z1 z2 z3 z4 z5 y0 y1 y2 y3 y4 y5 (.v (.int .i64 j)) .any .any ∧ (0 ≤ j ∧ j ≤ 14) ∧ (14 - j).toNat < (14 - k).toNat ∧ ∀ (e' : Exit) (s' : St), (e' = .exit 0 ∧ s' = SL z0 z1 z2 z3 z4 z5 y0 y1 y2 y3 y4 y5 (.v (.int .i64 14)) .any .any) → (e' = .exit 0 ∧ s' = SL z0 z1 z2 z3 z4 z5 y0 y1 y2 y3 y4 y5 (.v (.int .i64 14)) .any .any))) := by
        rw [nRp_eq]
        refine br_cases (fun q => ?_) (fun q => ?_)
        · have q : k < 14 := of_decide_eq_true q
          refine ⟨rfl, rfl, Or.inr ⟨rfl, IntKind.wrap .i64 (k + 1), rfl, ?_⟩⟩
          have e : IntKind.wrap .i64 (k + 1) = k + 1 := by have s := sw_eq (k + 1); simp only [sw] at s; rw [s]; omega
          rw [e]
          exact ⟨⟨by omega, by omega⟩, by omega, fun _ _ h => h⟩
        · have q : ¬ k < 14 := of_decide_eq_false q
          obtain rfl : k = 14 := by omega
          exact Or.inl ⟨by simp, rfl, rfl⟩
      unfold nRp at o
      exact rndL_sound good tkn ee lok2 (by kernel_rfl) o
  · exact hF.elim
theorem oKn : nKn (· = .bool true) := by
  have u1 : uu 2147483648 := by unfold uu; omega
  have u2 : uu 2 := by unfold uu; omega
  have u3 : uu 1 := by unfold uu; omega
  rw [nKn_eq]
  refine ⟨⟨(of_in u1).2, (of_in u2).2⟩, fun p q r s t u hA v one hI => ⟨⟨(of_in u3).2, (of_in u2).2⟩, fun p1 q1 r1 s1 t1 u1' p2 q2 r2 s2 t2 u2' o1 hB => ⟨⟨⟨rfl, rfl, rfl, rfl, rfl, rfl⟩, rfl, rfl, rfl, rfl, rfl, rfl⟩, ?_⟩⟩⟩
  obtain ⟨rfl, rfl, rfl, rfl, rfl, rfl⟩ := (hA.i (by decide)).o rfl rfl _ _ u1 u2 (of_in u1).1 (of_in u2).1
  obtain ⟨e1, e2⟩ := hI.l rfl
  rw [show wal 2 false 2147483648 2 = 0 by decide] at e2
  subst e1; subst e2
  have e3 := hB.x (by decide) rfl rfl (by decide)
  subst e3
  clear hA hI hB
  (repeat (first | refine ob_self ?_ | refine ob_true ?_ | (refine nm_intro ?_; intro _ _)))
  refine ⟨⟨⟨rfl, rfl, rfl, rfl, rfl, rfl⟩, rfl, rfl, rfl, rfl, rfl, rfl⟩, ?_⟩
  (repeat (first | refine ob_self ?_ | refine ob_true ?_ | (refine nm_intro ?_; intro _ _)))
  refine br_no ?_ ⟨rfl, rfl, rfl⟩
  subst_vars
  rfl
end Go.Proofs.Ytceclodenhgoeaa.ScUq
end
section
/- ScalarKnown, by the executor. -/
namespace Go.Proofs.Ytceclodenhgoeaa.LScalarKnown
open Go Go.Proofs Go.RowKit Go.Proofs.Ytceclodenhgoeaa.Xc Go.Proofs.Ytceclodenhgoeaa.Sc Go.Proofs.Ytceclodenhgoeaa.ScUo Go.Proofs.Ytceclodenhgoeaa.ScUp Go.Proofs.Ytceclodenhgoeaa.ScUq
theorem calls (W : World) : Calls Try.prog 7 #[] W (fun e W' => e = .returned (.bool true) ∧ Below W.heap.size W W') := by
  have o := oKn
  unfold nKn at o
  obtain ⟨_, r, hr, hc⟩ := runL_sound good tkn ee lok0 o
  subst hr
  exact hc W
end Go.Proofs.Ytceclodenhgoeaa.LScalarKnown
end
