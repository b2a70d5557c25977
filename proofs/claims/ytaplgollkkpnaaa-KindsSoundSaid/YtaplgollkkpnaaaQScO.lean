/- Layer 5: Norm, run. -/
import Derived.Test.YtaplgollkkpnaaaQScM
namespace Go.Proofs.Ytaplgollkkpnaaa.ScO
open Go Go.RowKit Go.Proofs Go.Proofs.Ytaplgollkkpnaaa.Xc Go.Proofs.Ytaplgollkkpnaaa.Sc Go.Proofs.Ytaplgollkkpnaaa.ScG Go.Proofs.Ytaplgollkkpnaaa.ScM
set_option maxRecDepth 100000
set_option linter.unusedVariables false
noncomputable abbrev TN : Tab := [
  (93, fun vs K => match vs with
    | [.agg ⟨[.int .u64 a, .int .u64 b]⟩] => al fun c => al fun d => al fun e => al fun f => im (FromTP a b c d e f) (K (.tuple #[T2 c d, S2 e f]))
    | _ => False),
  (95, fun vs K => match vs with
    | [.agg ⟨[.int .u64 a, .int .u64 b]⟩, .agg ⟨[.int .u64 c, .int .u64 d]⟩] => nm (decide (max a c ≤ min b d)) fun r => nm (bif r then max a c else 0) fun x => nm (bif r then min b d else 0) fun y => K (.tuple #[T2 x y, .bool r])
    | _ => False),
  (99, fun vs K => match vs with
    | [.agg ⟨[.int .i64 a, .int .i64 b]⟩, .agg ⟨[.int .i64 c, .int .i64 d]⟩] => nm (decide (max a c ≤ min b d)) fun r => nm (bif r then max a c else 0) fun x => nm (bif r then min b d else 0) fun y => K (.tuple #[S2 x y, .bool r])
    | _ => False),
  (96, fun vs K => match vs with
    | [.agg ⟨[.int .i64 e, .int .i64 f]⟩] => al fun c => al fun d => im (ToUP e f c d) (K (T2 c d))
    | _ => False),
  (100, fun vs K => match vs with
    | [.agg ⟨[.int .u64 c, .int .u64 d]⟩] => al fun e => al fun f => im (ToSP c d e f) (K (S2 e f))
    | _ => False),
  (104, fun vs K => match vs with
    | [.agg ⟨[.int .u64 c, .int .u64 d]⟩] => need (uu c ∧ uu d) (al fun a => al fun b => im (ToTP c d a b) (K (T2 a b)))
    | _ => False),
  (103, fun vs K => match vs with
    | [.agg ⟨[.int .u64 a, .int .u64 b]⟩, .agg ⟨[.int .u64 c, .int .u64 d]⟩] => al fun v => al fun m => al fun ok => im (TMeetP a b c d v m ok) (K (.tuple #[T2 v m, .bool ok]))
    | _ => False)]
def nNorm (a b c d e f : Int) (K : Value → Prop) : Prop := run Try.prog TN EE true 90 68 [Sc a b c d e f] K
theorem nNorm_eq (a b c d e f : Int) (K : Value → Prop) : nNorm a b c d e f K = (al fun x => al fun x_1 => al fun x_2 => al fun x_3 => im (Go.Proofs.Ytaplgollkkpnaaa.ScG.FromTP a b x x_1 x_2 x_3) (ob true true (al fun x_4 => al fun x_5 => im (Go.Proofs.Ytaplgollkkpnaaa.ScG.ToUP e f x_4 x_5) (nm (decide (max c x_4 ≤ min d x_5)) fun r => nm (bif r then max c x_4 else 0) fun r_1 => nm (bif r then min d x_5 else 0) fun r_2 => br (!r) (K (.tuple (#[.agg (#[.int .u64 0, .int .u64 0, .int .u64 0, .int .u64 0, .int .i64 0, .int .i64 0]), .bool false]))) (ob true true (nm (decide (max r_1 x ≤ min r_2 x_1)) fun r => nm (bif r then max r_1 x else 0) fun r_3 => nm (bif r then min r_2 x_1 else 0) fun r_4 => br (!r) (K (.tuple (#[.agg (#[.int .u64 0, .int .u64 0, .int .u64 0, .int .u64 0, .int .i64 0, .int .i64 0]), .bool false]))) (ob true true (al fun x => al fun x_6 => im (Go.Proofs.Ytaplgollkkpnaaa.ScG.ToSP r_3 r_4 x x_6) (nm (decide (max e x ≤ min f x_6)) fun r => nm (bif r then max e x else 0) fun r_5 => nm (bif r then min f x_6 else 0) fun r_6 => br (!r) (K (.tuple (#[.agg (#[.int .u64 0, .int .u64 0, .int .u64 0, .int .u64 0, .int .i64 0, .int .i64 0]), .bool false]))) (ob true true (nm (decide (max r_5 x_2 ≤ min r_6 x_3)) fun r => nm (bif r then max r_5 x_2 else 0) fun r_7 => nm (bif r then min r_6 x_3 else 0) fun r_8 => br (!r) (K (.tuple (#[.agg (#[.int .u64 0, .int .u64 0, .int .u64 0, .int .u64 0, .int .i64 0, .int .i64 0]), .bool false]))) (ob true true (need (Go.Proofs.Ytaplgollkkpnaaa.ScG.uu r_3 ∧ Go.Proofs.Ytaplgollkkpnaaa.ScG.uu r_4) (al fun x => al fun x_7 => im (Go.Proofs.Ytaplgollkkpnaaa.ScM.ToTP r_3 r_4 x x_7) (al fun x_8 => al fun x_9 => al fun x_10 => im (Go.Proofs.Ytaplgollkkpnaaa.ScG.TMeetP a b x x_7 x_8 x_9 x_10) (br (!x_10) (K (.tuple (#[.agg (#[.int .u64 0, .int .u64 0, .int .u64 0, .int .u64 0, .int .i64 0, .int .i64 0]), .bool false]))) (al fun x => al fun x_11 => al fun x_12 => al fun x_13 => im (Go.Proofs.Ytaplgollkkpnaaa.ScG.FromTP x_8 x_9 x x_11 x_12 x_13) (ob true true (al fun x_14 => al fun x_15 => im (Go.Proofs.Ytaplgollkkpnaaa.ScG.ToUP r_7 r_8 x_14 x_15) (nm (decide (max r_3 x_14 ≤ min r_4 x_15)) fun r => nm (bif r then max r_3 x_14 else 0) fun r_9 => nm (bif r then min r_4 x_15 else 0) fun r_10 => br (!r) (K (.tuple (#[.agg (#[.int .u64 0, .int .u64 0, .int .u64 0, .int .u64 0, .int .i64 0, .int .i64 0]), .bool false]))) (ob true true (nm (decide (max r_9 x ≤ min r_10 x_11)) fun r => nm (bif r then max r_9 x else 0) fun r_11 => nm (bif r then min r_10 x_11 else 0) fun r_12 => br (!r) (K (.tuple (#[.agg (#[.int .u64 0, .int .u64 0, .int .u64 0, .int .u64 0, .int .i64 0, .int .i64 0]), .bool false]))) (ob true true (al fun x => al fun x_16 => im (Go.Proofs.Ytaplgollkkpnaaa.ScG.ToSP r_11 r_12 x x_16) (nm (decide (max r_7 x ≤ min r_8 x_16)) fun r => nm (bif r then max r_7 x else 0) fun r_13 => nm (bif r then min r_8 x_16 else 0) fun r_14 => br (!r) (K (.tuple (#[.agg (#[.int .u64 0, .int .u64 0, .int .u64 0, .int .u64 0, .int .i64 0, .int .i64 0]), .bool false]))) (ob true true (nm (decide (max r_13 x_12 ≤ min r_14 x_13)) fun r => nm (bif r then max r_13 x_12 else 0) fun r_15 => nm (bif r then min r_14 x_13 else 0) fun r_16 => br (!r) (K (.tuple (#[.agg (#[.int .u64 0, .int .u64 0, .int .u64 0, .int .u64 0, .int .i64 0, .int .i64 0]), .bool false]))) (ob true true (need (Go.Proofs.Ytaplgollkkpnaaa.ScG.uu r_11 ∧ Go.Proofs.Ytaplgollkkpnaaa.ScG.uu r_12) (al fun x => al fun x_17 => im (Go.Proofs.Ytaplgollkkpnaaa.ScM.ToTP r_11 r_12 x x_17) (al fun x_18 => al fun x_19 => al fun x_20 => im (Go.Proofs.Ytaplgollkkpnaaa.ScG.TMeetP x_8 x_9 x x_17 x_18 x_19 x_20) (br (!x_20) (K (.tuple (#[.agg (#[.int .u64 0, .int .u64 0, .int .u64 0, .int .u64 0, .int .i64 0, .int .i64 0]), .bool false]))) (K (.tuple (#[.agg (#[.int .u64 x_18, .int .u64 x_19, .int .u64 r_11, .int .u64 r_12, .int .i64 r_15, .int .i64 r_16]), .bool true]))))))))))))))))))))))))))))))))))) := by kernel_rfl
end Go.Proofs.Ytaplgollkkpnaaa.ScO
