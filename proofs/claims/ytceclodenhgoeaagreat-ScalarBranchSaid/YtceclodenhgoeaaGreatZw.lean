/- Layer 5, against the reference: byte orders that are none, run. -/
import Derived.Test.YtceclodenhgoeaaGreatZs
namespace Go.Proofs.YtceclodenhgoeaaGreat.Zw
open Go Go.RowKit Go.Proofs Go.Proofs.YtceclodenhgoeaaGreat.Xc Go.Proofs.YtceclodenhgoeaaGreat.Zs
set_option maxRecDepth 100000
set_option linter.unusedVariables false
def nWx (k : Int) (high : Bool) (v : Int) (K : Value → Prop) : Prop := run Tryz.prog [] EEz true 8 88 [.int .i64 k, .bool high, .int .u64 v] K
theorem nWx_eq (k : Int) (high : Bool) (v : Int) (K : Value → Prop) : nWx k high v K = (ob (k != 16) (k != 16) (ob (k != 16) (k != 16) (ob (k != 16) (k != 16) (ob (!k != 16) true (nm (bif k != 16 then k != 32 else false) fun r => ob r r (ob r r (ob r r (ob (!r) true (nm (bif r then k != 64 else false) fun r => br r (K (.tuple (#[.int .u64 0, .bool false]))) (ob true (decide (0 ≤ IntKind.wrap .i64 (64 - k))) (ob true (decide (0 ≤ IntKind.wrap .i64 (64 - k))) (br (!high) False False)))))))))))) := by kernel_rfl
def nRx (k : Int) (high : Bool) (v : Int) (K : Value → Prop) : Prop := run Tryz.prog [] EEz true 8 89 [.int .i64 k, .bool high, .int .u64 v] K
theorem nRx_eq (k : Int) (high : Bool) (v : Int) (K : Value → Prop) : nRx k high v K = (ob (k != 16) (k != 16) (ob (k != 16) (k != 16) (ob (k != 16) (k != 16) (ob (!k != 16) true (nm (bif k != 16 then k != 32 else false) fun r => ob r r (ob r r (ob r r (ob (!r) true (nm (bif r then k != 64 else false) fun r => br r (K (.tuple (#[.int .u64 0, .bool false]))) False))))))))) := by kernel_rfl
end Go.Proofs.YtceclodenhgoeaaGreat.Zw
