/- Layer 5, against the reference: ref04.ToT and span.ToT, run. -/
import Derived.Test.YtceclodenhgoeaaGreatZy
namespace Go.Proofs.YtceclodenhgoeaaGreat.Zo
open Go Go.RowKit Go.Proofs Go.Proofs.YtceclodenhgoeaaGreat.Xc Go.Proofs.YtceclodenhgoeaaGreat.Zs Go.Proofs.YtceclodenhgoeaaGreat.Zr Go.Proofs.YtceclodenhgoeaaGreat.Zu Go.Proofs.YtceclodenhgoeaaGreat.Zy
set_option maxRecDepth 100000
set_option linter.unusedVariables false
abbrev T2 (a b : Int) : Value := .agg #[.int .u64 a, .int .u64 b]
def pw (k : Nat) : Int := 2 ^ k - 1
def FT (s : St) (K : Exit → St → Prop) : Prop := match s with
  | ⟨.v x0 :: t, [[.v (.int .u64 c), .v (.int .u64 d)], r]⟩ => need (keep [0, 1, 2, 3] 100 ⟨.v x0 :: t, [[.v (.int .u64 c), .v (.int .u64 d)], r]⟩ = ST x0 c d 0) (need (u6 c ∧ u6 d) (al fun k => im (KP c d k) (K (.exit 0) (ST x0 c d (pw k)))))
  | _ => False
noncomputable def LtT : Loops := [(0, blk Tryz.prog 168 0, FT)]
def nRTT (c d : Int) (K : Value → Prop) : Prop := runL Tryz.prog TAl EEz true LtT 90 168 [T2 c d] K
theorem nRTT_eq (c d : Int) (K : Value → Prop) : nRTT c d K = (same (blk Go.Proofs.Tryz.prog 168 0) (blk Go.Proofs.Tryz.prog 168 0) (need (St.mk [AV.v (.agg (#[.int .u64 c, .int .u64 d])), AV.p 0 0, AV.p 1 0, AV.v (.int .u64 0), AV.any, AV.any, AV.any, AV.any, AV.any, AV.any, AV.any, AV.any, AV.any, AV.any, AV.any, AV.any, AV.any, AV.any, AV.any, AV.any, AV.any, AV.any, AV.any, AV.any, AV.any, AV.any, AV.any, AV.any, AV.any, AV.any, AV.any, AV.any, AV.any, AV.any, AV.any, AV.any, AV.any, AV.any, AV.any, AV.any, AV.any, AV.any, AV.any, AV.any, AV.any, AV.any] [[AV.v (.int .u64 c), AV.v (.int .u64 d)], [AV.v (.int .u64 0), AV.v (.int .u64 0)]] = St.mk [AV.v (.agg (#[.int .u64 c, .int .u64 d])), AV.p 0 0, AV.p 1 0, AV.v (.int .u64 0), AV.any, AV.any, AV.any, AV.any, AV.any, AV.any, AV.any, AV.any, AV.any, AV.any, AV.any, AV.any, AV.any, AV.any, AV.any, AV.any, AV.any, AV.any, AV.any, AV.any, AV.any, AV.any, AV.any, AV.any, AV.any, AV.any, AV.any, AV.any, AV.any, AV.any, AV.any, AV.any, AV.any, AV.any, AV.any, AV.any, AV.any, AV.any, AV.any, AV.any, AV.any, AV.any] [[AV.v (.int .u64 c), AV.v (.int .u64 d)], [AV.v (.int .u64 0), AV.v (.int .u64 0)]]) (need (Go.Proofs.YtceclodenhgoeaaGreat.Zu.u6 c ∧ Go.Proofs.YtceclodenhgoeaaGreat.Zu.u6 d) (al fun x => im (Go.Proofs.YtceclodenhgoeaaGreat.Zy.KP c d x) (br (Go.Proofs.YtceclodenhgoeaaGreat.Zo.pw x == 18446744073709551615) (K (.agg (#[.int .u64 0, .int .u64 (Go.Proofs.YtceclodenhgoeaaGreat.Zo.pw x)]))) (ob true (IntKind.wrap .u64 (Go.Proofs.YtceclodenhgoeaaGreat.Zo.pw x + 1) != 0) (K (.agg (#[.int .u64 (IntKind.wrap .u64 (c - Int.tmod c (IntKind.wrap .u64 (Go.Proofs.YtceclodenhgoeaaGreat.Zo.pw x + 1)))), .int .u64 (Go.Proofs.YtceclodenhgoeaaGreat.Zo.pw x)]))))))))) := by kernel_rfl
end Go.Proofs.YtceclodenhgoeaaGreat.Zo
