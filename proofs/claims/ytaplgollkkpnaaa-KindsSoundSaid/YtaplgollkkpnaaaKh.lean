/- Layer 18: KindsHolds, run. -/
import Derived.Test.YtaplgollkkpnaaaKg
namespace Go.Proofs.Ytaplgollkkpnaaa.Kh
open Go Go.RowKit Go.Proofs Go.Proofs.Ytaplgollkkpnaaa.Xc Go.Proofs.Ytaplgollkkpnaaa.Ka Go.Proofs.Ytaplgollkkpnaaa.Kb Go.Proofs.Ytaplgollkkpnaaa.Kc Go.Proofs.Ytaplgollkkpnaaa.Kd Go.Proofs.Ytaplgollkkpnaaa.Ke Go.Proofs.Ytaplgollkkpnaaa.Kf Go.Proofs.Ytaplgollkkpnaaa.Kg
set_option maxRecDepth 100000
set_option linter.unusedVariables false
def RtQ (q : Bool) (k a b c d e f off rg : Int) : Prop := q = true → RtP k a b c d e f off rg
def cTrue (vs : List Value) (K : Value → Prop) : Prop := match vs with
  | [] => K (.bool true)
  | _ => False
def cRt (vs : List Value) (K : Value → Prop) : Prop := match vs with
  | [.agg ⟨[.int .i64 k, .int .u64 a, .int .u64 b, .int .u64 c, .int .u64 d, .int .i64 e, .int .i64 f, .int .i64 off, .int .i64 id, .int .i64 rg, .int .i64 mp]⟩] => need ((u6 a ∧ u6 b) ∧ (u6 c ∧ u6 d)) (al fun q : Bool => im (RtQ q k a b c d e f off rg) (K (.bool q)))
  | _ => False
def cHo (vs : List Value) (K : Value → Prop) : Prop := match vs with
  | [.agg ⟨[.int .i64 k, .int .u64 a, .int .u64 b, .int .u64 c, .int .u64 d, .int .i64 e, .int .i64 f, .int .i64 off, .int .i64 id, .int .i64 rg, .int .i64 mp]⟩, .agg ⟨[.int .i64 vk, .int .u64 vn, .int .i64 vi]⟩, .int .i64 len, .int .u64 base, .int .i64 of] => need (dj a b ∧ ((u6 vn ∧ u6 base) ∧ i6 off)) (nm (hoB k a b c d e f off rg mp vk vn vi len base of) fun r => K (.bool r))
  | _ => False
noncomputable abbrev TW : Tab := [(6, cRt), (7, cTrue), (12, cHo), (13, cHo)]
def nLaw (k a b c d e f off id rg mp vk vn vi len base of : Int) (K : Value → Prop) : Prop := run Try.prog TW EEz true 90 4 [Rg k a b c d e f off id rg mp, Vl vk vn vi, .int .i64 len, .int .u64 base, .int .i64 of] K
theorem nLaw_eq (k a b c d e f off id rg mp vk vn vi len base of : Int) (K : Value → Prop) : nLaw k a b c d e f off id rg mp vk vn vi len base of K = (need ((Go.Proofs.Ytaplgollkkpnaaa.Ka.u6 a ∧ Go.Proofs.Ytaplgollkkpnaaa.Ka.u6 b) ∧ Go.Proofs.Ytaplgollkkpnaaa.Ka.u6 c ∧ Go.Proofs.Ytaplgollkkpnaaa.Ka.u6 d) (al fun x => im (Go.Proofs.Ytaplgollkkpnaaa.Kh.RtQ x k a b c d e f off rg) (ob (!!x) (!!x) (ob (!x) true (ob (!!x) (!!x) (nm (bif !x then true else decide (len < 0)) fun r => ob (!r) (!r) (ob r true (ob (!r) (!r) (nm (bif r then true else decide (len > 65535)) fun r => br r (K (.bool true)) (need (Go.Proofs.Ytaplgollkkpnaaa.Ka.dj a b ∧ (Go.Proofs.Ytaplgollkkpnaaa.Ka.u6 vn ∧ Go.Proofs.Ytaplgollkkpnaaa.Ka.u6 base) ∧ Go.Proofs.Ytaplgollkkpnaaa.Kg.i6 off) (nm (Go.Proofs.Ytaplgollkkpnaaa.Kg.hoB k a b c d e f off rg mp vk vn vi len base of) fun r => need (Go.Proofs.Ytaplgollkkpnaaa.Ka.dj a b ∧ (Go.Proofs.Ytaplgollkkpnaaa.Ka.u6 vn ∧ Go.Proofs.Ytaplgollkkpnaaa.Ka.u6 base) ∧ Go.Proofs.Ytaplgollkkpnaaa.Kg.i6 off) (nm (Go.Proofs.Ytaplgollkkpnaaa.Kg.hoB k a b c d e f off rg mp vk vn vi len base of) fun r_1 => ob (r == r_1) (r == r_1) (ob (!r == r_1) true (nm (bif r == r_1 then true else false) fun r => K (.bool r))))))))))))))) := by kernel_rfl
end Go.Proofs.Ytaplgollkkpnaaa.Kh
