/- VZdf, VZdg, VZdh, VZdi, VZdj, VZdn, VZdp, VZdq, in one text. -/
import Derived.Test.YtnephcecobocdaaVb
import Derived.Test.YtnephcecobocdaaVa
import Derived.Test.YtnephcecobocdaaBa
import Derived.Test.YtnephcecobocdaaXa
section
/- Layer 5, against the reference: shifts of spans, their bits, on both sides, run. -/
namespace Go.Proofs.Ytnephcecobocdaa.VZdf
open Go Go.RowKit Go.Proofs Go.Proofs.Ytnephcecobocdaa.Xc Go.Proofs.Ytnephcecobocdaa.VZs Go.Proofs.Ytnephcecobocdaa.VZk Go.Proofs.Ytnephcecobocdaa.VZo Go.Proofs.Ytnephcecobocdaa.VZq Go.Proofs.Ytnephcecobocdaa.VZu Go.Proofs.Ytnephcecobocdaa.VZcf Go.Proofs.Ytnephcecobocdaa.VZdc Go.Proofs.Ytnephcecobocdaa.VZdd Go.Proofs.Ytnephcecobocdaa.VZde
set_option maxRecDepth 100000
set_option linter.unusedVariables false
/-- Whether a number shifted up is one of 64 bits; shifted up; shifted down. -/
def ulo (b n : Int) : Bool := decide (b * 2 ^ sh n < 18446744073709551616)
def up (a n : Int) : Int := a * 2 ^ sh n
def dn (a n : Int) : Int := a / 2 ^ sh n
def FL (s : St) (K : Exit → St → Prop) : Prop := match s with
  | ⟨.v x0 :: .v (.int .i64 n) :: t, [[.v (.int .u64 a), .v (.int .u64 b)], r]⟩ => need (keep [0, 1, 2, 4, 5] 100 ⟨.v x0 :: .v (.int .i64 n) :: t, [[.v (.int .u64 a), .v (.int .u64 b)], r]⟩ = SLs x0 a b n 0 0 0) (need ((u6 a ∧ u6 b) ∧ (a ≤ b ∧ i6 n)) (br (ulo b n) (K (.exit 0) (SLs x0 (up a n) (up b n) n (shI n) 0 0)) (al fun a' => al fun b' => al fun i => K .ret (SLs x0 a' b' n i 0 18446744073709551615))))
  | _ => False
def FR (s : St) (K : Exit → St → Prop) : Prop := match s with
  | ⟨.v x0 :: .v (.int .i64 n) :: t, [[.v (.int .u64 a), .v (.int .u64 b)], r]⟩ => need (keep [0, 1, 2, 4, 5] 100 ⟨.v x0 :: .v (.int .i64 n) :: t, [[.v (.int .u64 a), .v (.int .u64 b)], r]⟩ = SRs x0 a b n 0) (need ((u6 a ∧ u6 b) ∧ i6 n) (K (.exit 0) (SRs x0 (dn a n) (dn b n) n (shI n))))
  | _ => False
def FA (s : St) (K : Exit → St → Prop) : Prop := match s with
  | ⟨.v x0 :: .v (.int .i64 n) :: t, [[.v (.int .i64 a), .v (.int .i64 b)], r]⟩ => need (keep [0, 1, 2, 4, 5] 100 ⟨.v x0 :: .v (.int .i64 n) :: t, [[.v (.int .i64 a), .v (.int .i64 b)], r]⟩ = SAs x0 a b n 0) (need ((i6 a ∧ i6 b) ∧ i6 n) (K (.exit 0) (SAs x0 (dn a n) (dn b n) n (shI n))))
  | _ => False
def FF (s : St) (K : Exit → St → Prop) : Prop := match s with
  | ⟨.v (.int .u64 v) :: t, []⟩ => need (keep [0, 2, 3] 100 ⟨.v (.int .u64 v) :: t, []⟩ = SFs v 0) (need (u6 v) (K (.exit 0) (SFs v (fl v))))
  | _ => False
noncomputable def LtL : Loops := [(0, blk Try.prog 67 0, FL)]
noncomputable def LtR : Loops := [(0, blk Try.prog 68 0, FR)]
noncomputable def LtA : Loops := [(0, blk Try.prog 36 0, FA)]
noncomputable def LtF : Loops := [(0, blk Try.prog 93 0, FF)]
def nULc (a b n : Int) (K : Value → Prop) : Prop := run Try.prog [] EEk true 90 55 [T2 a b, .int .i64 n] K
theorem nULc_eq (a b n : Int) (K : Value → Prop) : nULc a b n K = (ob true (decide (0 ≤ Go.bits .and .i64 n 63)) (ob true (decide (0 ≤ Go.bits .and .i64 n 63)) (br (IntKind.wrap .u64 (b * 2 ^ min (Int.toNat (Go.bits .and .i64 n 63)) (IntKind.bits .u64)) / 2 ^ min (Int.toNat (Go.bits .and .i64 n 63)) (IntKind.bits .u64) != b) (K (.agg (#[.int .u64 0, .int .u64 18446744073709551615]))) (ob true (decide (0 ≤ Go.bits .and .i64 n 63)) (ob true (decide (0 ≤ Go.bits .and .i64 n 63)) (K (.agg (#[.int .u64 (IntKind.wrap .u64 (a * 2 ^ min (Int.toNat (Go.bits .and .i64 n 63)) (IntKind.bits .u64))), .int .u64 (IntKind.wrap .u64 (b * 2 ^ min (Int.toNat (Go.bits .and .i64 n 63)) (IntKind.bits .u64)))])))))))) := by kernel_rfl
def nULr (a b n : Int) (K : Value → Prop) : Prop := runL Try.prog [] EEk true LtL 90 67 [T2 a b, .int .i64 n] K
theorem nULr_eq (a b n : Int) (K : Value → Prop) : nULr a b n K = (same (blk Go.Proofs.Try.prog 67 0) (blk Go.Proofs.Try.prog 67 0) (need (St.mk [AV.v (.agg (#[.int .u64 a, .int .u64 b])), AV.v (.int .i64 n), AV.p 0 0, AV.any, AV.p 1 0, AV.v (.int .i64 0), AV.any, AV.any, AV.any, AV.any, AV.any, AV.any, AV.any, AV.any, AV.any, AV.any, AV.any, AV.any, AV.any, AV.any, AV.any, AV.any, AV.any, AV.any, AV.any] [[AV.v (.int .u64 a), AV.v (.int .u64 b)], [AV.v (.int .u64 0), AV.v (.int .u64 0)]] = St.mk [AV.v (.agg (#[.int .u64 a, .int .u64 b])), AV.v (.int .i64 n), AV.p 0 0, AV.any, AV.p 1 0, AV.v (.int .i64 0), AV.any, AV.any, AV.any, AV.any, AV.any, AV.any, AV.any, AV.any, AV.any, AV.any, AV.any, AV.any, AV.any, AV.any, AV.any, AV.any, AV.any, AV.any, AV.any] [[AV.v (.int .u64 a), AV.v (.int .u64 b)], [AV.v (.int .u64 0), AV.v (.int .u64 0)]]) (need ((Go.Proofs.Ytnephcecobocdaa.VZu.u6 a ∧ Go.Proofs.Ytnephcecobocdaa.VZu.u6 b) ∧ a ≤ b ∧ Go.Proofs.Ytnephcecobocdaa.VZcf.i6 n) (br (Go.Proofs.Ytnephcecobocdaa.VZdf.ulo b n) (K (.agg (#[.int .u64 (Go.Proofs.Ytnephcecobocdaa.VZdf.up a n), .int .u64 (Go.Proofs.Ytnephcecobocdaa.VZdf.up b n)]))) (al fun (x : Int) => al fun (x : Int) => al fun (x : Int) => K (.agg (#[.int .u64 0, .int .u64 18446744073709551615]))))))) := by kernel_rfl
def nURc (a b n : Int) (K : Value → Prop) : Prop := run Try.prog [] EEk true 90 47 [T2 a b, .int .i64 n] K
theorem nURc_eq (a b n : Int) (K : Value → Prop) : nURc a b n K = (ob true (decide (0 ≤ Go.bits .and .i64 n 63)) (ob true (decide (0 ≤ Go.bits .and .i64 n 63)) (K (.agg (#[.int .u64 (a / 2 ^ min (Int.toNat (Go.bits .and .i64 n 63)) (IntKind.bits .u64)), .int .u64 (b / 2 ^ min (Int.toNat (Go.bits .and .i64 n 63)) (IntKind.bits .u64))]))))) := by kernel_rfl
def nURr (a b n : Int) (K : Value → Prop) : Prop := runL Try.prog [] EEk true LtR 90 68 [T2 a b, .int .i64 n] K
theorem nURr_eq (a b n : Int) (K : Value → Prop) : nURr a b n K = (same (blk Go.Proofs.Try.prog 68 0) (blk Go.Proofs.Try.prog 68 0) (need (St.mk [AV.v (.agg (#[.int .u64 a, .int .u64 b])), AV.v (.int .i64 n), AV.p 0 0, AV.any, AV.p 1 0, AV.v (.int .i64 0), AV.any, AV.any, AV.any, AV.any, AV.any, AV.any, AV.any, AV.any, AV.any, AV.any, AV.any, AV.any, AV.any, AV.any] [[AV.v (.int .u64 a), AV.v (.int .u64 b)], [AV.v (.int .u64 0), AV.v (.int .u64 0)]] = St.mk [AV.v (.agg (#[.int .u64 a, .int .u64 b])), AV.v (.int .i64 n), AV.p 0 0, AV.any, AV.p 1 0, AV.v (.int .i64 0), AV.any, AV.any, AV.any, AV.any, AV.any, AV.any, AV.any, AV.any, AV.any, AV.any, AV.any, AV.any, AV.any, AV.any] [[AV.v (.int .u64 a), AV.v (.int .u64 b)], [AV.v (.int .u64 0), AV.v (.int .u64 0)]]) (need ((Go.Proofs.Ytnephcecobocdaa.VZu.u6 a ∧ Go.Proofs.Ytnephcecobocdaa.VZu.u6 b) ∧ Go.Proofs.Ytnephcecobocdaa.VZcf.i6 n) (K (.agg (#[.int .u64 (Go.Proofs.Ytnephcecobocdaa.VZdf.dn a n), .int .u64 (Go.Proofs.Ytnephcecobocdaa.VZdf.dn b n)])))))) := by kernel_rfl
def nSRc (a b n : Int) (K : Value → Prop) : Prop := run Try.prog [] EEk true 90 21 [S2 a b, .int .i64 n] K
theorem nSRc_eq (a b n : Int) (K : Value → Prop) : nSRc a b n K = (ob true (decide (0 ≤ Go.bits .and .i64 n 63)) (ob true (decide (0 ≤ Go.bits .and .i64 n 63)) (K (.agg (#[.int .i64 (a / 2 ^ min (Int.toNat (Go.bits .and .i64 n 63)) (IntKind.bits .i64)), .int .i64 (b / 2 ^ min (Int.toNat (Go.bits .and .i64 n 63)) (IntKind.bits .i64))]))))) := by kernel_rfl
def nSRr (a b n : Int) (K : Value → Prop) : Prop := runL Try.prog [] EEk true LtA 90 36 [S2 a b, .int .i64 n] K
theorem nSRr_eq (a b n : Int) (K : Value → Prop) : nSRr a b n K = (same (blk Go.Proofs.Try.prog 36 0) (blk Go.Proofs.Try.prog 36 0) (need (St.mk [AV.v (.agg (#[.int .i64 a, .int .i64 b])), AV.v (.int .i64 n), AV.p 0 0, AV.any, AV.p 1 0, AV.v (.int .i64 0), AV.any, AV.any, AV.any, AV.any, AV.any, AV.any, AV.any, AV.any, AV.any, AV.any, AV.any, AV.any, AV.any, AV.any] [[AV.v (.int .i64 a), AV.v (.int .i64 b)], [AV.v (.int .i64 0), AV.v (.int .i64 0)]] = St.mk [AV.v (.agg (#[.int .i64 a, .int .i64 b])), AV.v (.int .i64 n), AV.p 0 0, AV.any, AV.p 1 0, AV.v (.int .i64 0), AV.any, AV.any, AV.any, AV.any, AV.any, AV.any, AV.any, AV.any, AV.any, AV.any, AV.any, AV.any, AV.any, AV.any] [[AV.v (.int .i64 a), AV.v (.int .i64 b)], [AV.v (.int .i64 0), AV.v (.int .i64 0)]]) (need ((Go.Proofs.Ytnephcecobocdaa.VZcf.i6 a ∧ Go.Proofs.Ytnephcecobocdaa.VZcf.i6 b) ∧ Go.Proofs.Ytnephcecobocdaa.VZcf.i6 n) (K (.agg (#[.int .i64 (Go.Proofs.Ytnephcecobocdaa.VZdf.dn a n), .int .i64 (Go.Proofs.Ytnephcecobocdaa.VZdf.dn b n)])))))) := by kernel_rfl
def nFu (v : Int) (K : Value → Prop) : Prop := runL Try.prog [] EEk true LtF 90 93 [.int .u64 v] K
theorem nFu_eq (v : Int) (K : Value → Prop) : nFu v K = (same (blk Go.Proofs.Try.prog 93 0) (blk Go.Proofs.Try.prog 93 0) (need (St.mk [AV.v (.int .u64 v), AV.any, AV.v (.int .u64 0), AV.v (.int .u64 0), AV.any, AV.any, AV.any, AV.any, AV.any, AV.any, AV.any] [] = St.mk [AV.v (.int .u64 v), AV.any, AV.v (.int .u64 0), AV.v (.int .u64 0), AV.any, AV.any, AV.any, AV.any, AV.any, AV.any, AV.any] []) (need (Go.Proofs.Ytnephcecobocdaa.VZu.u6 v) (K (.int .u64 (Go.Proofs.Ytnephcecobocdaa.VZde.fl v)))))) := by kernel_rfl
def cFu (vs : List Value) (K : Value → Prop) : Prop := match vs with
  | [.int .u64 v] => need (u6 v) (nm (fl v) fun r => K (.int .u64 r))
  | _ => False
noncomputable abbrev TFu : Tab := [(93, cFu)]
noncomputable abbrev TBe : Tab := [(90, fun vs K => match vs with
  | [.int .u64 v] => need (u6 v) (nm (fl v) fun r => K (.int .u64 r))
  | _ => False)]
def nUOc (a b c d : Int) (K : Value → Prop) : Prop := run Try.prog TBe EEk true 90 46 [T2 a b, T2 c d] K
theorem nUOc_eq (a b c d : Int) (K : Value → Prop) : nUOc a b c d K = (ob (a == b) (a == b) (ob (a == b) (a == b) (ob (!a == b) true (nm (bif a == b then c == d else false) fun r => br r (K (.agg (#[.int .u64 (Go.bits .or .u64 a c), .int .u64 (Go.bits .or .u64 a c)]))) (need (Go.Proofs.Ytnephcecobocdaa.VZu.u6 (Go.bits .or .u64 b d)) (nm (Go.Proofs.Ytnephcecobocdaa.VZde.fl (Go.bits .or .u64 b d)) fun r => K (.agg (#[.int .u64 (if c > a then c else a), .int .u64 r])))))))) := by kernel_rfl
def nUOr (a b c d : Int) (K : Value → Prop) : Prop := run Try.prog TFu EEk true 90 66 [T2 a b, T2 c d] K
theorem nUOr_eq (a b c d : Int) (K : Value → Prop) : nUOr a b c d K = (ob (a == b) (a == b) (ob (a == b) (a == b) (ob (!a == b) true (nm (bif a == b then c == d else false) fun r => br r (K (.agg (#[.int .u64 (Go.bits .or .u64 a c), .int .u64 (Go.bits .or .u64 a c)]))) (need (Go.Proofs.Ytnephcecobocdaa.VZu.u6 b) (nm (Go.Proofs.Ytnephcecobocdaa.VZde.fl b) fun r => br (decide (c > a)) (need (Go.Proofs.Ytnephcecobocdaa.VZu.u6 d) (nm (Go.Proofs.Ytnephcecobocdaa.VZde.fl d) fun r_1 => br (decide (r_1 > r)) (need (Go.Proofs.Ytnephcecobocdaa.VZu.u6 d) (nm (Go.Proofs.Ytnephcecobocdaa.VZde.fl d) fun r => K (.agg (#[.int .u64 c, .int .u64 r])))) (K (.agg (#[.int .u64 c, .int .u64 r]))))) (need (Go.Proofs.Ytnephcecobocdaa.VZu.u6 d) (nm (Go.Proofs.Ytnephcecobocdaa.VZde.fl d) fun r_1 => br (decide (r_1 > r)) (need (Go.Proofs.Ytnephcecobocdaa.VZu.u6 d) (nm (Go.Proofs.Ytnephcecobocdaa.VZde.fl d) fun r => K (.agg (#[.int .u64 a, .int .u64 r])))) (K (.agg (#[.int .u64 a, .int .u64 r]))))))))))) := by kernel_rfl
end Go.Proofs.Ytnephcecobocdaa.VZdf
end
section
/- Layer 5, against the reference: shifts of spans are the same on both sides. -/
namespace Go.Proofs.Ytnephcecobocdaa.VZdg
open Go Go.RowKit Go.Proofs Go.Proofs.Ytnephcecobocdaa.Xc Go.Proofs.Ytnephcecobocdaa.VZs Go.Proofs.Ytnephcecobocdaa.VZk Go.Proofs.Ytnephcecobocdaa.VZo Go.Proofs.Ytnephcecobocdaa.VZq Go.Proofs.Ytnephcecobocdaa.VZu Go.Proofs.Ytnephcecobocdaa.VZbc Go.Proofs.Ytnephcecobocdaa.VZcf Go.Proofs.Ytnephcecobocdaa.VZdb Go.Proofs.Ytnephcecobocdaa.VZdc Go.Proofs.Ytnephcecobocdaa.VZdd Go.Proofs.Ytnephcecobocdaa.VZde Go.Proofs.Ytnephcecobocdaa.VZdf Go.Proofs.Ytnephcecobocdaa.Bv Go.Proofs.Ytnephcecobocdaa.VZv Go.Proofs.Ytnephcecobocdaa.VZy Go.Proofs.Ytnephcecobocdaa.VZda
set_option linter.unusedVariables false
set_option linter.unusedSimpArgs false
theorem blkL : blk Try.prog 67 0 = .loop bodyL := by kernel_rfl
theorem blkR : blk Try.prog 68 0 = .loop bodyR := by kernel_rfl
theorem blkA : blk Try.prog 36 0 = .loop bodyA := by kernel_rfl
theorem blkF : blk Try.prog 93 0 = .loop bodyF := by kernel_rfl
theorem okL (x0 : Value) (a b n i l h : Int) : okSt (SLs x0 a b n i l h) = true := by kernel_rfl
theorem okR (x0 : Value) (a b n i : Int) : okSt (SRs x0 a b n i) = true := by kernel_rfl
theorem okA (x0 : Value) (a b n i : Int) : okSt (SAs x0 a b n i) = true := by kernel_rfl
theorem okF (v n : Int) : okSt (SFs v n) = true := by kernel_rfl
theorem lokL : LOk Try.prog LtL := by
  refine lok_one fun s K hF => ?_
  unfold FL at hF
  split at hF
  · rename_i x0 n t a b r
    obtain ⟨hs, ⟨⟨ha, hb⟩, hab, hn⟩, hK⟩ := hF
    obtain ⟨e, s', h, hl⟩ := loopL x0 a b n ha hb hab hn
    have fin : Xc.SW Try.prog (blk Try.prog 67 0) ⟨.v x0 :: .v (.int .i64 n) :: t, [[.v (.int .u64 a), .v (.int .u64 b)], r]⟩ e s' := by
      rw [blkL]
      refine keep_pre (ks := [0, 1, 2, 4, 5]) (n := 100) (show 2 ≤ 100 by decide) (by rw [hs]; exact okL _ _ _ _ _ _ _) ?_
      rw [hs]; exact lw_of hl
    rcases h with ⟨h, rfl, rfl⟩ | ⟨h, a', b', i, rfl, rfl⟩
    · rw [show ulo b n = true from decide_eq_true h] at hK
      exact ⟨_, _, hK, fin⟩
    · rw [show ulo b n = false from decide_eq_false h] at hK
      exact ⟨_, _, hK a' b' i, fin⟩
  · exact hF.elim
theorem lokR : LOk Try.prog LtR := by
  refine lok_one fun s K hF => ?_
  unfold FR at hF
  split at hF
  · rename_i x0 n t a b r
    obtain ⟨hs, ⟨⟨ha, hb⟩, hn⟩, hK⟩ := hF
    refine ⟨_, _, hK, ?_⟩
    rw [blkR]
    refine keep_pre (ks := [0, 1, 2, 4, 5]) (n := 100) (show 2 ≤ 100 by decide) (by rw [hs]; exact okR _ _ _ _ _) ?_
    rw [hs]; exact lw_of (loopR x0 a b n ha hb hn)
  · exact hF.elim
theorem lokA : LOk Try.prog LtA := by
  refine lok_one fun s K hF => ?_
  unfold FA at hF
  split at hF
  · rename_i x0 n t a b r
    obtain ⟨hs, ⟨⟨ha, hb⟩, hn⟩, hK⟩ := hF
    refine ⟨_, _, hK, ?_⟩
    rw [blkA]
    refine keep_pre (ks := [0, 1, 2, 4, 5]) (n := 100) (show 2 ≤ 100 by decide) (by rw [hs]; exact okA _ _ _ _ _) ?_
    rw [hs]; exact lw_of (loopA x0 a b n ha hb hn)
  · exact hF.elim
theorem lokF : LOk Try.prog LtF := by
  refine lok_one fun s K hF => ?_
  unfold FF at hF
  split at hF
  · rename_i v t
    obtain ⟨hs, hv, hK⟩ := hF
    obtain ⟨k, hk, hl⟩ := loopF v hv
    unfold fl at hK
    rw [kpf_eq hk] at hK
    refine ⟨_, _, hK, ?_⟩
    rw [blkF]
    refine keep_pre (ks := [0, 2, 3]) (n := 100) (show 0 ≤ 100 by decide) (by rw [hs]; exact okF _ _) ?_
    rw [hs]; exact lw_of hl
  · exact hF.elim
def ulL (a b n : Int) : Int := bif ulo b n then up a n else 0
def ulH (a b n : Int) : Int := bif ulo b n then up b n else 18446744073709551615
theorem cnt {n : Int} (h : i6 n) (k : IntKind) (hk : IntKind.bits k = 64) : min (Int.toNat (Go.bits .and .i64 n 63)) (IntKind.bits k) = sh n := by
  rw [and63 h, hk]
  have := sh_lt n
  omega
theorem obc {n : Int} (h : i6 n) : decide (0 ≤ Go.bits .and .i64 n 63) = true := by rw [and63 h]; exact decide_eq_true (by omega)
section
variable {a b n : Int} {K : Value → Prop}
theorem rULc (ha : u6 a) (hb : u6 b) (hab : a ≤ b) (hn : i6 n) (h : K (T2 (ulL a b n) (ulH a b n))) : nULc a b n K := by
  rw [nULc_eq]
  simp only [cnt hn .u64 rfl, obc hn]
  repeat (first | with_reducible refine ob_self ?_ | with_reducible refine ob_true ?_)
  have hp := pw_pos (sh n)
  have n2 := Int.mul_le_mul_of_nonneg_right hab (Int.le_of_lt hp)
  unfold u6 at ha hb
  have n1 := Int.mul_nonneg ha.1 (Int.le_of_lt hp)
  unfold ulL ulH at h
  by_cases q : b * 2 ^ sh n < 18446744073709551616
  · rw [show ulo b n = true from decide_eq_true q] at h
    have e : IntKind.wrap .u64 (b * 2 ^ sh n) = b * 2 ^ sh n := by rw [uW]; omega
    have e2 : IntKind.wrap .u64 (a * 2 ^ sh n) = a * 2 ^ sh n := by rw [uW]; omega
    rw [e, e2, Int.mul_ediv_cancel _ (by omega)]
    refine br_no (bne_self_eq_false b) ?_
    repeat (first | with_reducible refine ob_self ?_ | with_reducible refine ob_true ?_)
    exact h
  · rw [show ulo b n = false from decide_eq_false q] at h
    refine br_yes ?_ h
    rw [bne_iff_ne]
    intro e
    have h1 := Int.ediv_mul_le (IntKind.wrap .u64 (b * 2 ^ sh n)) (show (2 : Int) ^ sh n ≠ 0 by omega)
    rw [e, uW] at h1
    omega
theorem rULr (ha : u6 a) (hb : u6 b) (hab : a ≤ b) (hn : i6 n) (h : K (T2 (ulL a b n) (ulH a b n))) : nULr a b n K := by
  rw [nULr_eq]
  refine ⟨rfl, rfl, ⟨⟨ha, hb⟩, hab, hn⟩, ?_⟩
  unfold ulL ulH at h
  refine br_cases (fun q => ?_) (fun q => fun _ _ _ => ?_)
  · rw [q] at h; exact h
  · rw [q] at h; exact h
theorem rURc (hn : i6 n) (h : K (T2 (dn a n) (dn b n))) : nURc a b n K := by
  rw [nURc_eq]
  simp only [cnt hn .u64 rfl, obc hn]
  repeat (first | with_reducible refine ob_self ?_ | with_reducible refine ob_true ?_)
  exact h
theorem rURr (ha : u6 a) (hb : u6 b) (hn : i6 n) (h : K (T2 (dn a n) (dn b n))) : nURr a b n K := by
  rw [nURr_eq]
  exact ⟨rfl, rfl, ⟨⟨ha, hb⟩, hn⟩, h⟩
theorem rSRc (hn : i6 n) (h : K (S2 (dn a n) (dn b n))) : nSRc a b n K := by
  rw [nSRc_eq]
  simp only [cnt hn .i64 rfl, obc hn]
  repeat (first | with_reducible refine ob_self ?_ | with_reducible refine ob_true ?_)
  exact h
theorem rSRr (ha : i6 a) (hb : i6 b) (hn : i6 n) (h : K (S2 (dn a n) (dn b n))) : nSRr a b n K := by
  rw [nSRr_eq]
  exact ⟨rfl, rfl, ⟨⟨ha, hb⟩, hn⟩, h⟩
theorem rFu (ha : u6 a) (h : K (.int .u64 (fl a))) : nFu a K := by
  rw [nFu_eq]
  exact ⟨rfl, rfl, ha, h⟩
end
theorem KP0i {v : Int} (hv : u6 v) {k : Nat} (h : KP v 0 k) : v < 2 ^ k ∧ ∀ i, i < k → 2 ^ i ≤ v := by
  unfold u6 at hv
  constructor
  · have e := h.eq
    rw [Int.zero_ediv] at e
    have hp := pw_pos k
    have := Int.lt_ediv_add_one_mul_self v hp
    rw [e] at this; omega
  · intro i hi
    have n := h.ne i hi
    rw [Int.zero_ediv] at n
    have hp := pw_pos i
    refine Classical.byContradiction fun q => n (Int.ediv_eq_zero_of_lt hv.1 (by omega))
/-- All bits up to the highest of one or the other. -/
theorem fl_or {b d : Int} (hb : u6 b) (hd : u6 d) : fl (Go.bits .or .u64 b d) = if fl d > fl b then fl d else fl b := by
  obtain ⟨B, rfl⟩ := exu hb
  obtain ⟨D, rfl⟩ := exu hd
  rw [b_or, ofInt_U, ofInt_U]
  obtain ⟨kb, hkb, _⟩ := loopF (U B) hb
  obtain ⟨kd, hkd, _⟩ := loopF (U D) hd
  have ho : u6 (U (B ||| D)) := ⟨U_nonneg _, U_lt _⟩
  obtain ⟨b1, b2⟩ := KP0i hb hkb
  obtain ⟨d1, d2⟩ := KP0i hd hkd
  have pn : ∀ k : Nat, ((2 ^ k : Nat) : Int) = (2 : Int) ^ k := fun k => by simp
  have hor : KP (U (B ||| D)) 0 (max kb kd) := by
    refine KP0 ho (Nat.max_le.mpr ⟨hkb.le, hkd.le⟩) ?_ ?_
    · have hB : B.toNat < 2 ^ max kb kd := Nat.lt_of_lt_of_le (by have := pn kb; unfold U at b1; omega) (Nat.pow_le_pow_right (by decide) (Nat.le_max_left ..))
      have hD : D.toNat < 2 ^ max kb kd := Nat.lt_of_lt_of_le (by have := pn kd; unfold U at d1; omega) (Nat.pow_le_pow_right (by decide) (Nat.le_max_right ..))
      have := Nat.or_lt_two_pow hB hD
      rw [← BitVec.toNat_or] at this
      have := pn (max kb kd)
      unfold U; omega
    · intro i hi
      have e1 : B.toNat ≤ (B ||| D).toNat := by rw [BitVec.toNat_or]; exact Nat.left_le_or
      have e2 : D.toNat ≤ (B ||| D).toNat := by rw [BitVec.toNat_or]; exact Nat.right_le_or
      unfold U at b2 d2 ⊢
      by_cases q : i < kb
      · have := b2 i q; omega
      · have := d2 i (by omega); omega
  unfold fl
  rw [kpf_eq hor, kpf_eq hkb, kpf_eq hkd]
  by_cases q : kb < kd
  · have : (2 : Int) ^ kb < 2 ^ kd := by
      have := Nat.pow_lt_pow_right (show 1 < 2 by decide) q
      have h1 := pn kb
      have h2 := pn kd
      omega
    rw [Nat.max_eq_right (by omega), if_pos (by omega)]
  · have : (2 : Int) ^ kd ≤ 2 ^ kb := by
      have := Nat.pow_le_pow_right (show 0 < 2 by decide) (show kd ≤ kb by omega)
      have h1 := pn kb
      have h2 := pn kd
      omega
    rw [Nat.max_eq_left (by omega), if_neg (by omega)]
def uoL' (a b c d : Int) : Int := if a = b ∧ c = d then Go.bits .or .u64 a c else if c > a then c else a
noncomputable def uoH' (a b c d : Int) : Int := if a = b ∧ c = d then Go.bits .or .u64 a c else fl (Go.bits .or .u64 b d)
section
variable {a b c d : Int} {K : Value → Prop}
theorem u6_or (x y : Int) : u6 (Go.bits .or .u64 x y) := by rw [b_or]; exact ⟨U_nonneg _, U_lt _⟩
theorem rUOc (h : K (T2 (uoL' a b c d) (uoH' a b c d))) : nUOc a b c d K := by
  rw [nUOc_eq]
  unfold uoL' uoH' at h
  repeat (first | with_reducible refine ob_self ?_ | with_reducible refine ob_true ?_)
  refine nm_intro fun r hr => ?_
  subst hr
  refine br_cases (fun q => ?_) (fun q => ?_)
  · simp only [Bool.cond_false_right, Bool.and_eq_true, beq_iff_eq] at q
    rw [if_pos q, if_pos q] at h; exact h
  · have q : ¬ (a = b ∧ c = d) := by
      intro e
      simp [e.1, e.2] at q
    rw [if_neg q, if_neg q] at h
    exact ⟨u6_or _ _, nm_intro fun r hr => by subst hr; exact h⟩
theorem rUOr (hb : u6 b) (hd : u6 d) (h : K (T2 (uoL' a b c d) (uoH' a b c d))) : nUOr a b c d K := by
  rw [nUOr_eq]
  unfold uoL' uoH' at h
  repeat (first | with_reducible refine ob_self ?_ | with_reducible refine ob_true ?_)
  refine nm_intro fun r hr => ?_
  subst hr
  refine br_cases (fun q => ?_) (fun q => ?_)
  · simp only [Bool.cond_false_right, Bool.and_eq_true, beq_iff_eq] at q
    rw [if_pos q, if_pos q] at h; exact h
  · have q : ¬ (a = b ∧ c = d) := by
      intro e
      simp [e.1, e.2] at q
    rw [if_neg q, if_neg q, fl_or hb hd] at h
    refine ⟨hb, nm_intro fun r hr => ?_⟩
    subst hr
    refine br_cases (fun q1 => ?_) (fun q1 => ?_)
    · rw [if_pos (of_decide_eq_true q1)] at h
      refine ⟨hd, nm_intro fun r hr => ?_⟩
      subst hr
      refine br_cases (fun q2 => ?_) (fun q2 => ?_)
      · rw [if_pos (of_decide_eq_true q2)] at h
        exact ⟨hd, nm_intro fun r hr => by subst hr; exact h⟩
      · rw [if_neg (of_decide_eq_false q2)] at h; exact h
    · rw [if_neg (of_decide_eq_false q1)] at h
      refine ⟨hd, nm_intro fun r hr => ?_⟩
      subst hr
      refine br_cases (fun q2 => ?_) (fun q2 => ?_)
      · rw [if_pos (of_decide_eq_true q2)] at h
        exact ⟨hd, nm_intro fun r hr => by subst hr; exact h⟩
      · rw [if_neg (of_decide_eq_false q2)] at h; exact h
end
end Go.Proofs.Ytnephcecobocdaa.VZdg
end
section
/- Layer 5, against the reference: parts that are settled, on both sides, run. -/
namespace Go.Proofs.Ytnephcecobocdaa.VZdh
open Go Go.RowKit Go.Proofs Go.Proofs.Ytnephcecobocdaa.Xc Go.Proofs.Ytnephcecobocdaa.VZs Go.Proofs.Ytnephcecobocdaa.VZk Go.Proofs.Ytnephcecobocdaa.VZo Go.Proofs.Ytnephcecobocdaa.VZq Go.Proofs.Ytnephcecobocdaa.VZu Go.Proofs.Ytnephcecobocdaa.VZbj Go.Proofs.Ytnephcecobocdaa.VZcf Go.Proofs.Ytnephcecobocdaa.VZdb
set_option maxRecDepth 100000
set_option linter.unusedVariables false
/-- A span of numbers. -/
structure LH (l h : Int) : Prop where
  pl : u6 l
  ph : u6 h
  le : l ≤ h
def cUc (vs : List Value) (K : Value → Prop) : Prop := match vs with
  | [.agg ⟨[.int .u64 c, .int .u64 d]⟩] => need (LH c d) (nm (ucL c d) fun l => nm (ucH c d) fun h => im (LH l h) (K (T2 l h)))
  | _ => False
end Go.Proofs.Ytnephcecobocdaa.VZdh
end
section
/- Layer 5, against the reference: what is settled is the same on both sides, and may be. -/
namespace Go.Proofs.Ytnephcecobocdaa.VZdi
open Go Go.RowKit Go.Proofs Go.Proofs.Ytnephcecobocdaa.Xc Go.Proofs.Ytnephcecobocdaa.VZs Go.Proofs.Ytnephcecobocdaa.VZk Go.Proofs.Ytnephcecobocdaa.VZo Go.Proofs.Ytnephcecobocdaa.VZq Go.Proofs.Ytnephcecobocdaa.VZu Go.Proofs.Ytnephcecobocdaa.VZv Go.Proofs.Ytnephcecobocdaa.VZbc Go.Proofs.Ytnephcecobocdaa.VZbj Go.Proofs.Ytnephcecobocdaa.VZcf Go.Proofs.Ytnephcecobocdaa.VZdb Go.Proofs.Ytnephcecobocdaa.VZdc Go.Proofs.Ytnephcecobocdaa.VZdh Go.Proofs.Ytnephcecobocdaa.Bv
set_option linter.unusedVariables false
set_option linter.unusedSimpArgs false
theorem lh_uc {c d : Int} (h : LH c d) : LH (ucL c d) (ucH c d) := by
  obtain ⟨h1, h2, h3⟩ := h
  unfold u6 at h1 h2
  unfold ucL ucH
  split
  · exact ⟨by unfold u6; omega, by unfold u6; omega, by omega⟩
  · exact ⟨by unfold u6; omega, by unfold u6; omega, by omega⟩
section
variable {a b c d e f : Int} {K : Value → Prop}
end
end Go.Proofs.Ytnephcecobocdaa.VZdi
end
section
/- Layer 5, against the reference: Alu, operation by operation, on both sides, run. -/
namespace Go.Proofs.Ytnephcecobocdaa.VZdj
open Go Go.RowKit Go.Proofs Go.Proofs.Ytnephcecobocdaa.Xc Go.Proofs.Ytnephcecobocdaa.VZs Go.Proofs.Ytnephcecobocdaa.VZk Go.Proofs.Ytnephcecobocdaa.VZo Go.Proofs.Ytnephcecobocdaa.VZq Go.Proofs.Ytnephcecobocdaa.VZu Go.Proofs.Ytnephcecobocdaa.VZbj Go.Proofs.Ytnephcecobocdaa.VZcf Go.Proofs.Ytnephcecobocdaa.VZdb Go.Proofs.Ytnephcecobocdaa.VZdc Go.Proofs.Ytnephcecobocdaa.VZdf Go.Proofs.Ytnephcecobocdaa.VZdg Go.Proofs.Ytnephcecobocdaa.VZdh Go.Proofs.Ytnephcecobocdaa.VZdi Go.Proofs.Ytnephcecobocdaa.Bv
set_option maxRecDepth 100000
set_option linter.unusedVariables false
def cU (f g : Int → Int → Int → Int → Int) (vs : List Value) (K : Value → Prop) : Prop := match vs with
  | [.agg ⟨[.int .u64 a, .int .u64 b]⟩, .agg ⟨[.int .u64 c, .int .u64 d]⟩] => need (LH a b ∧ LH c d) (nm (f a b c d) fun l => nm (g a b c d) fun h => im (LH l h) (K (T2 l h)))
  | _ => False
/-- A span of numbers with a sign. -/
structure LI (l h : Int) : Prop where
  pl : i6 l
  ph : i6 h
  le : l ≤ h
def cI (f g : Int → Int → Int → Int → Int) (vs : List Value) (K : Value → Prop) : Prop := match vs with
  | [.agg ⟨[.int .i64 a, .int .i64 b]⟩, .agg ⟨[.int .i64 c, .int .i64 d]⟩] => need (LI a b ∧ LI c d) (nm (f a b c d) fun l => nm (g a b c d) fun h => im (LI l h) (K (S2 l h)))
  | _ => False
end Go.Proofs.Ytnephcecobocdaa.VZdj
end
section
/- Layer 5, against the reference: products of 128 bits; the code's product of known bits, run. -/
namespace Go.Proofs.Ytnephcecobocdaa.VZdn
open Go Go.RowKit Go.Proofs Go.Proofs.Ytnephcecobocdaa.Xc Go.Proofs.Ytnephcecobocdaa.VZs Go.Proofs.Ytnephcecobocdaa.VZk Go.Proofs.Ytnephcecobocdaa.VZo Go.Proofs.Ytnephcecobocdaa.VZq Go.Proofs.Ytnephcecobocdaa.VZu Go.Proofs.Ytnephcecobocdaa.VZcf Go.Proofs.Ytnephcecobocdaa.VZda Go.Proofs.Ytnephcecobocdaa.VZdb Go.Proofs.Ytnephcecobocdaa.VZdh Go.Proofs.Ytnephcecobocdaa.VZdi Go.Proofs.Ytnephcecobocdaa.VZdj Go.Proofs.Ytnephcecobocdaa.Bv
set_option maxRecDepth 100000
set_option linter.unusedVariables false
def nMu64 (x y : Int) (K : Value → Prop) : Prop := run Try.prog [] EEk true 90 91 [.int .u64 x, .int .u64 y] K
theorem nMu64_eq (x y : Int) (K : Value → Prop) : nMu64 x y K = (ob true true (ob true true (ob true true (ob true true (ob true true (K (.tuple (#[.int .u64 (IntKind.wrap .u64 (IntKind.wrap .u64 (IntKind.wrap .u64 (x / 2 ^ min (Int.toNat 32) (IntKind.bits .u64) * (y / 2 ^ min (Int.toNat 32) (IntKind.bits .u64))) + IntKind.wrap .u64 (IntKind.wrap .u64 (x / 2 ^ min (Int.toNat 32) (IntKind.bits .u64) * Go.bits .and .u64 y 4294967295) + IntKind.wrap .u64 (Go.bits .and .u64 x 4294967295 * Go.bits .and .u64 y 4294967295) / 2 ^ min (Int.toNat 32) (IntKind.bits .u64)) / 2 ^ min (Int.toNat 32) (IntKind.bits .u64)) + IntKind.wrap .u64 (Go.bits .and .u64 (IntKind.wrap .u64 (IntKind.wrap .u64 (x / 2 ^ min (Int.toNat 32) (IntKind.bits .u64) * Go.bits .and .u64 y 4294967295) + IntKind.wrap .u64 (Go.bits .and .u64 x 4294967295 * Go.bits .and .u64 y 4294967295) / 2 ^ min (Int.toNat 32) (IntKind.bits .u64))) 4294967295 + IntKind.wrap .u64 (Go.bits .and .u64 x 4294967295 * (y / 2 ^ min (Int.toNat 32) (IntKind.bits .u64)))) / 2 ^ min (Int.toNat 32) (IntKind.bits .u64))), .int .u64 (IntKind.wrap .u64 (x * y))])))))))) := by kernel_rfl
end Go.Proofs.Ytnephcecobocdaa.VZdn
end
section
/- Layer 5, against the reference: products of 128 bits; what lies below; spans stay spans. -/
namespace Go.Proofs.Ytnephcecobocdaa.VZdp
open Go Go.RowKit Go.Proofs Go.Proofs.Ytnephcecobocdaa.Xc Go.Proofs.Ytnephcecobocdaa.VZs Go.Proofs.Ytnephcecobocdaa.VZk Go.Proofs.Ytnephcecobocdaa.VZo Go.Proofs.Ytnephcecobocdaa.VZq Go.Proofs.Ytnephcecobocdaa.VZu Go.Proofs.Ytnephcecobocdaa.VZv Go.Proofs.Ytnephcecobocdaa.VZbb Go.Proofs.Ytnephcecobocdaa.VZbc Go.Proofs.Ytnephcecobocdaa.VZcf Go.Proofs.Ytnephcecobocdaa.VZdb Go.Proofs.Ytnephcecobocdaa.VZdc Go.Proofs.Ytnephcecobocdaa.VZde Go.Proofs.Ytnephcecobocdaa.VZdf Go.Proofs.Ytnephcecobocdaa.VZdg Go.Proofs.Ytnephcecobocdaa.VZdh Go.Proofs.Ytnephcecobocdaa.VZdi Go.Proofs.Ytnephcecobocdaa.VZdj Go.Proofs.Ytnephcecobocdaa.Bv
open Go.Proofs.Ytnephcecobocdaa.VZda (mulH TMu)
set_option linter.unusedVariables false
set_option linter.unusedSimpArgs false
theorem u6_U (x : W) : u6 (U x) := ⟨U_nonneg _, U_lt _⟩
theorem and_lo {x : Int} (h : u6 x) : Go.bits .and .u64 x 4294967295 = x % 4294967296 := and32 h
theorem m_le {a b : Int} (ha : 0 ≤ a ∧ a < 4294967296) (hb : 0 ≤ b ∧ b < 4294967296) : 0 ≤ a * b ∧ a * b ≤ 18446744065119617025 :=
  ⟨Int.mul_nonneg ha.1 hb.1, by
    have := Int.mul_le_mul (show a ≤ 4294967295 by omega) (show b ≤ 4294967295 by omega) hb.1 (by omega)
    omega⟩
theorem rMu64 {x y : Int} {K : Value → Prop} (hx : u6 x) (hy : u6 y) (h : K (.tuple #[.int .u64 (mulH x y), .int .u64 (IntKind.wrap .u64 (x * y))])) : VZdn.nMu64 x y K := by
  rw [VZdn.nMu64_eq]
  have e32 : (2 : Int) ^ min (Int.toNat 32) (IntKind.bits .u64) = 4294967296 := by decide +kernel
  rw [e32, and_lo hx, and_lo hy, and_lo (VZbj.u6_w _)]
  unfold mulH at h
  unfold u6 at hx hy
  have hxh : 0 ≤ x / 4294967296 ∧ x / 4294967296 < 4294967296 := by omega
  have hxl : 0 ≤ x % 4294967296 ∧ x % 4294967296 < 4294967296 := by omega
  have hyh : 0 ≤ y / 4294967296 ∧ y / 4294967296 < 4294967296 := by omega
  have hyl : 0 ≤ y % 4294967296 ∧ y % 4294967296 < 4294967296 := by omega
  have hp := m_le hxh hyh
  have hq := m_le hxh hyl
  have hr := m_le hxl hyh
  have hs := m_le hxl hyl
  have key : x * y = x / 4294967296 * (y / 4294967296) * 18446744073709551616 + (x / 4294967296 * (y % 4294967296) + x % 4294967296 * (y / 4294967296)) * 4294967296 + x % 4294967296 * (y % 4294967296) := by
    have e1 : x = x / 4294967296 * 4294967296 + x % 4294967296 := by omega
    have e2 : y = y / 4294967296 * 4294967296 + y % 4294967296 := by omega
    generalize x / 4294967296 = X at *
    generalize x % 4294967296 = X' at *
    generalize y / 4294967296 = Y at *
    generalize y % 4294967296 = Y' at *
    rw [e1, e2]; grind
  rw [key] at h ⊢
  generalize x / 4294967296 * (y / 4294967296) = p at *
  generalize x / 4294967296 * (y % 4294967296) = q at *
  generalize x % 4294967296 * (y / 4294967296) = r at *
  generalize x % 4294967296 * (y % 4294967296) = s at *
  (repeat (first | with_reducible refine ob_self ?_ | with_reducible refine ob_true ?_))
  have w1 : IntKind.wrap .u64 p = p := by rw [uW]; omega
  have w2 : IntKind.wrap .u64 q = q := by rw [uW]; omega
  have w3 : IntKind.wrap .u64 r = r := by rw [uW]; omega
  have w4 : IntKind.wrap .u64 s = s := by rw [uW]; omega
  rw [w1, w2, w3, w4]
  have w5 : IntKind.wrap .u64 (q + s / 4294967296) = q + s / 4294967296 := by rw [uW]; omega
  rw [w5]
  have w6 : IntKind.wrap .u64 (p + (q + s / 4294967296) / 4294967296) = p + (q + s / 4294967296) / 4294967296 := by rw [uW]; omega
  have w7 : IntKind.wrap .u64 ((q + s / 4294967296) % 4294967296 + r) = (q + s / 4294967296) % 4294967296 + r := by rw [uW]; omega
  rw [w6, w7]
  have w8 : IntKind.wrap .u64 (p + (q + s / 4294967296) / 4294967296 + ((q + s / 4294967296) % 4294967296 + r) / 4294967296) = (p * 18446744073709551616 + (q + r) * 4294967296 + s) / 18446744073709551616 := by
    rw [uW]; omega
  rw [w8]; exact h
theorem tmu : TabOk Try.prog TMu := by
  refine tab_runK good (by kernel_rfl) (fun vs K h => ?_) tab_nil
  split at h
  · obtain ⟨⟨h0, h1⟩, h⟩ := h
    have o := rMu64 (K := K) h0 h1 (h _ rfl _ rfl)
    unfold VZdn.nMu64 at o; exact ⟨[], EEk, true, 90, tab_nil, eek, o⟩
  · exact h.elim
theorem bel_fl {x m : Int} (hx : u6 x) (h : BelP x m) : m = fl x := by
  obtain ⟨k, hk, rfl, h1, h2⟩ := h
  unfold fl
  rw [kpf_eq (KP0 hx hk h1 (fun i hi => ?_))]
  rcases h2 with rfl | h2
  · omega
  · have : (2 : Int) ^ i ≤ 2 ^ (k - 1) := by
      have : 2 ^ i ≤ 2 ^ (k - 1) := Nat.pow_le_pow_right (by decide) (by omega)
      have : ((2 ^ i : Nat) : Int) ≤ ((2 ^ (k - 1) : Nat) : Int) := by omega
      simpa using this
    omega
theorem tbe : TabOk Try.prog TBe := by
  refine tab_runK good (by kernel_rfl) (fun vs K h => ?_) tab_nil
  split at h
  · rename_i x
    obtain ⟨h0, h⟩ := h
    have o := rbelow x K h0.1 h0.2 (fun m hm => by rw [bel_fl h0 hm]; exact h _ rfl)
    unfold nbelow at o; exact ⟨TB, EEz, true, 90, tbl, eez, o⟩
  · exact h.elim
theorem tfu : TabOk Try.prog TFu := by
  refine tab_runL good (by kernel_rfl) (fun vs K h => ?_) tab_nil
  unfold cFu at h; split at h
  · obtain ⟨h0, h⟩ := h
    have o := rFu (K := K) h0 (h _ rfl)
    unfold nFu at o; exact ⟨[], EEk, true, LtF, 90, tab_nil, eek, lokF, o⟩
  · exact h.elim
section
variable {a b c d n : Int}
theorem lh_ua (h : LH a b) (k : LH c d) : LH (uaL a b c d) (uaH a b c d) := by
  obtain ⟨h1, h2, h3⟩ := h; obtain ⟨k1, k2, k3⟩ := k; unfold u6 at *
  unfold uaL uaH; split <;> exact ⟨by unfold u6; omega, by unfold u6; omega, by omega⟩
theorem lh_us (h : LH a b) (k : LH c d) : LH (usL a b c d) (usH a b c d) := by
  obtain ⟨h1, h2, h3⟩ := h; obtain ⟨k1, k2, k3⟩ := k; unfold u6 at *
  unfold usL usH; split <;> exact ⟨by unfold u6; omega, by unfold u6; omega, by omega⟩
theorem lh_um (h : LH a b) (k : LH c d) : LH (umL a b c d) (umH a b c d) := by
  obtain ⟨h1, h2, h3⟩ := h; obtain ⟨k1, k2, k3⟩ := k; unfold u6 at *
  have m1 := Int.mul_nonneg h1.1 k1.1
  have m2 := Int.mul_le_mul h3 k3 k1.1 h2.1
  unfold umL umH; split <;> exact ⟨by unfold u6; omega, by unfold u6; omega, by omega⟩
theorem lh_ud (h : LH a b) (k : LH c d) : LH (udL a b c d) (udH a b c d) := by
  obtain ⟨h1, h2, h3⟩ := h; obtain ⟨k1, k2, k3⟩ := k; unfold u6 at *
  unfold udL udH; split
  · rename_i q
    have m1 := Int.ediv_nonneg h1.1 k1.1
    have m2 := Int.ediv_le_ediv (show 0 < c by omega) h3
    have m3 := Int.ediv_le_self c h1.1
    have m4 := Int.ediv_le_self c h2.1
    exact ⟨by unfold u6; omega, by unfold u6; omega, m2⟩
  · exact ⟨by unfold u6; omega, by unfold u6; omega, by omega⟩
theorem lh_uo (h : LH a b) (k : LH c d) : LH (uoL a b c d) (uoH a b c d) := by
  obtain ⟨h1, h2, h3⟩ := h; obtain ⟨k1, k2, k3⟩ := k; unfold u6 at *
  unfold uoL uoH; split
  · rename_i q
    have m1 := Int.emod_nonneg a (show c ≠ 0 by omega)
    have m2 := Int.emod_lt_of_pos a (show 0 < c by omega)
    split
    · exact ⟨h1, h2, h3⟩
    · split
      · exact ⟨by unfold u6; omega, by unfold u6; omega, by omega⟩
      · exact ⟨by unfold u6; omega, by unfold u6; omega, by omega⟩
  · exact ⟨by unfold u6; omega, by unfold u6; omega, by omega⟩
theorem u6_and (x y : Int) : u6 (Go.bits .and .u64 x y) := by rw [b_and]; exact u6_U _
theorem lh_un (h : LH a b) (k : LH c d) : LH (unL a b c d) (unH a b c d) := by
  obtain ⟨h1, h2, h3⟩ := h; obtain ⟨k1, k2, k3⟩ := k
  unfold unL unH; split
  · exact ⟨u6_and _ _, u6_and _ _, Int.le_refl _⟩
  · unfold u6 at *; exact ⟨by unfold u6; omega, by unfold u6; omega, by omega⟩
theorem li_sa (h : LI a b) (k : LI c d) : LI (saL a b c d) (saH a b c d) := by
  obtain ⟨h1, h2, h3⟩ := h; obtain ⟨k1, k2, k3⟩ := k; unfold i6 at *
  unfold saL saH sR; split <;> exact ⟨by unfold i6; omega, by unfold i6; omega, by omega⟩
theorem li_ss (h : LI a b) (k : LI c d) : LI (ssL a b c d) (ssH a b c d) := by
  obtain ⟨h1, h2, h3⟩ := h; obtain ⟨k1, k2, k3⟩ := k; unfold i6 at *
  unfold ssL ssH sR; split <;> exact ⟨by unfold i6; omega, by unfold i6; omega, by omega⟩
theorem fl_ge {v : Int} (h : u6 v) : v ≤ fl v ∧ u6 (fl v) := by
  obtain ⟨k, hk, _⟩ := loopF v h
  have h1 := (KP0i h hk).1
  have h2 := pw_le hk.le
  unfold u6 at *
  unfold fl; rw [kpf_eq hk]; omega
theorem or_ge (B D : W) : U B ≤ U (B ||| D) ∧ U D ≤ U (B ||| D) := by
  have e1 : B.toNat ≤ (B ||| D).toNat := by rw [BitVec.toNat_or]; exact Nat.left_le_or
  have e2 : D.toNat ≤ (B ||| D).toNat := by rw [BitVec.toNat_or]; exact Nat.right_le_or
  unfold U; omega
theorem lh_uo' (h : LH a b) (k : LH c d) : LH (uoL' a b c d) (uoH' a b c d) := by
  obtain ⟨h1, h2, h3⟩ := h; obtain ⟨k1, k2, k3⟩ := k
  unfold uoL' uoH'
  by_cases q : a = b ∧ c = d
  · rw [if_pos q, if_pos q]; exact ⟨u6_or _ _, u6_or _ _, Int.le_refl _⟩
  · rw [if_neg q, if_neg q]
    have f := fl_ge (u6_or b d)
    obtain ⟨B, rfl⟩ := exu h2
    obtain ⟨D, rfl⟩ := exu k2
    have g := or_ge B D
    rw [b_or, ofInt_U, ofInt_U] at f ⊢
    unfold u6 at *
    split <;> exact ⟨by unfold u6; omega, by unfold u6; omega, by omega⟩
end
end Go.Proofs.Ytnephcecobocdaa.VZdp
end
section
/- Layer 5, against the reference: ScalarAlu: the tables' entries. -/
namespace Go.Proofs.Ytnephcecobocdaa.VZdq
open Go Go.RowKit Go.Proofs Go.Proofs.Ytnephcecobocdaa.Xc Go.Proofs.Ytnephcecobocdaa.VZs Go.Proofs.Ytnephcecobocdaa.VZk Go.Proofs.Ytnephcecobocdaa.VZo Go.Proofs.Ytnephcecobocdaa.VZq Go.Proofs.Ytnephcecobocdaa.VZu Go.Proofs.Ytnephcecobocdaa.VZv Go.Proofs.Ytnephcecobocdaa.VZbj Go.Proofs.Ytnephcecobocdaa.VZcf Go.Proofs.Ytnephcecobocdaa.VZdb Go.Proofs.Ytnephcecobocdaa.VZdc Go.Proofs.Ytnephcecobocdaa.VZdd Go.Proofs.Ytnephcecobocdaa.VZdf Go.Proofs.Ytnephcecobocdaa.VZdg Go.Proofs.Ytnephcecobocdaa.VZdh Go.Proofs.Ytnephcecobocdaa.VZdi Go.Proofs.Ytnephcecobocdaa.VZdj Go.Proofs.Ytnephcecobocdaa.VZdn Go.Proofs.Ytnephcecobocdaa.VZdp Go.Proofs.Ytnephcecobocdaa.Bv
open Go.Proofs.Ytnephcecobocdaa.VZda (TMu)
set_option linter.unusedVariables false
set_option linter.unusedSimpArgs false
abbrev Ent (f : FuncId) (F : List Value → (Value → Prop) → Prop) : Prop := ∀ T, TabOk Try.prog T → TabOk Try.prog ((f, F) :: T)
theorem u4 {a b c d : Int} (h : LH a b) (k : LH c d) : U4 a b c d := ⟨h.pl, h.ph, k.pl, k.ph, h.le, k.le⟩
theorem s4 {a b c d : Int} (h : LI a b) (k : LI c d) : S4 a b c d := ⟨h.pl, h.ph, k.pl, k.ph, h.le, k.le⟩
theorem e101 : Ent 43 (cU uaL uaH) := fun T k => tab_runK good (by kernel_rfl) (fun vs K h => by
  unfold cU at h; split at h
  · obtain ⟨⟨h1, h2⟩, h⟩ := h
    have o := VZdb.rAddC (K := K) (u4 h1 h2) (h _ rfl _ rfl (lh_ua h1 h2)); unfold VZda.nAddC at o; exact ⟨[], EEk, true, 90, tab_nil, eek, o⟩
  · exact h.elim) k
theorem e132 : Ent 60 (cU uaL uaH) := fun T k => tab_runK good (by kernel_rfl) (fun vs K h => by
  unfold cU at h; split at h
  · obtain ⟨⟨h1, h2⟩, h⟩ := h
    have o := VZdb.rAddR (K := K) (u4 h1 h2) (h _ rfl _ rfl (lh_ua h1 h2)); unfold VZda.nAddR at o; exact ⟨[], EEk, true, 90, tab_nil, eek, o⟩
  · exact h.elim) k
theorem e104 : Ent 44 (cU usL usH) := fun T k => tab_runK good (by kernel_rfl) (fun vs K h => by
  unfold cU at h; split at h
  · obtain ⟨⟨h1, h2⟩, h⟩ := h
    have o := VZdb.rSubC (K := K) (u4 h1 h2) (h _ rfl _ rfl (lh_us h1 h2)); unfold VZda.nSubC at o; exact ⟨[], EEk, true, 90, tab_nil, eek, o⟩
  · exact h.elim) k
theorem e135 : Ent 61 (cU usL usH) := fun T k => tab_runK good (by kernel_rfl) (fun vs K h => by
  unfold cU at h; split at h
  · obtain ⟨⟨h1, h2⟩, h⟩ := h
    have o := VZdb.rSubR (K := K) (u4 h1 h2) (h _ rfl _ rfl (lh_us h1 h2)); unfold VZda.nSubR at o; exact ⟨[], EEk, true, 90, tab_nil, eek, o⟩
  · exact h.elim) k
theorem e107 : Ent 54 (cU umL umH) := fun T k => tab_runK good (by kernel_rfl) (fun vs K h => by
  unfold cU at h; split at h
  · obtain ⟨⟨h1, h2⟩, h⟩ := h
    have o := VZdb.rMulC (K := K) (u4 h1 h2) (h _ rfl _ rfl (lh_um h1 h2)); unfold VZda.nMulC at o; exact ⟨TMu, EEk, true, 90, tmu, eek, o⟩
  · exact h.elim) k
theorem e138 : Ent 62 (cU umL umH) := fun T k => tab_runK good (by kernel_rfl) (fun vs K h => by
  unfold cU at h; split at h
  · obtain ⟨⟨h1, h2⟩, h⟩ := h
    have o := VZdb.rMulR (K := K) (u4 h1 h2) (h _ rfl _ rfl (lh_um h1 h2)); unfold VZda.nMulR at o; exact ⟨[], EEk, true, 90, tab_nil, eek, o⟩
  · exact h.elim) k
theorem e108 : Ent 51 (cU udL udH) := fun T k => tab_runK good (by kernel_rfl) (fun vs K h => by
  unfold cU at h; split at h
  · obtain ⟨⟨h1, h2⟩, h⟩ := h
    have o := VZdb.rDivC (K := K) (u4 h1 h2) (h _ rfl _ rfl (lh_ud h1 h2)); unfold VZda.nDivC at o; exact ⟨[], EEk, true, 90, tab_nil, eek, o⟩
  · exact h.elim) k
theorem e139 : Ent 63 (cU udL udH) := fun T k => tab_runK good (by kernel_rfl) (fun vs K h => by
  unfold cU at h; split at h
  · obtain ⟨⟨h1, h2⟩, h⟩ := h
    have o := VZdb.rDivR (K := K) (u4 h1 h2) (h _ rfl _ rfl (lh_ud h1 h2)); unfold VZda.nDivR at o; exact ⟨[], EEk, true, 90, tab_nil, eek, o⟩
  · exact h.elim) k
theorem e109 : Ent 52 (cU uoL uoH) := fun T k => tab_runK good (by kernel_rfl) (fun vs K h => by
  unfold cU at h; split at h
  · obtain ⟨⟨h1, h2⟩, h⟩ := h
    have o := VZdb.rModC (K := K) (u4 h1 h2) (h _ rfl _ rfl (lh_uo h1 h2)); unfold VZda.nModC at o; exact ⟨[], EEk, true, 90, tab_nil, eek, o⟩
  · exact h.elim) k
theorem e140 : Ent 64 (cU uoL uoH) := fun T k => tab_runK good (by kernel_rfl) (fun vs K h => by
  unfold cU at h; split at h
  · obtain ⟨⟨h1, h2⟩, h⟩ := h
    have o := VZdb.rModR (K := K) (u4 h1 h2) (h _ rfl _ rfl (lh_uo h1 h2)); unfold VZda.nModR at o; exact ⟨[], EEk, true, 90, tab_nil, eek, o⟩
  · exact h.elim) k
theorem e113 : Ent 45 (cU unL unH) := fun T k => tab_runK good (by kernel_rfl) (fun vs K h => by
  unfold cU at h; split at h
  · obtain ⟨⟨h1, h2⟩, h⟩ := h
    have o := VZdb.rAndC (K := K) (h _ rfl _ rfl (lh_un h1 h2)); unfold VZda.nAndC at o; exact ⟨[], EEk, true, 90, tab_nil, eek, o⟩
  · exact h.elim) k
theorem e144 : Ent 65 (cU unL unH) := fun T k => tab_runK good (by kernel_rfl) (fun vs K h => by
  unfold cU at h; split at h
  · obtain ⟨⟨h1, h2⟩, h⟩ := h
    have o := VZdb.rAndR (K := K) (h _ rfl _ rfl (lh_un h1 h2)); unfold VZda.nAndR at o; exact ⟨[], EEk, true, 90, tab_nil, eek, o⟩
  · exact h.elim) k
theorem e111 : Ent 46 (cU uoL' uoH') := fun T k => tab_runK good (by kernel_rfl) (fun vs K h => by
  unfold cU at h; split at h
  · obtain ⟨⟨h1, h2⟩, h⟩ := h
    have o := rUOc (K := K) (h _ rfl _ rfl (lh_uo' h1 h2)); unfold VZdf.nUOc at o; exact ⟨TBe, EEk, true, 90, tbe, eek, o⟩
  · exact h.elim) k
theorem e142 : Ent 66 (cU uoL' uoH') := fun T k => tab_runK good (by kernel_rfl) (fun vs K h => by
  unfold cU at h; split at h
  · obtain ⟨⟨h1, h2⟩, h⟩ := h
    have o := rUOr (K := K) h1.ph h2.ph (h _ rfl _ rfl (lh_uo' h1 h2)); unfold VZdf.nUOr at o; exact ⟨TFu, EEk, true, 90, tfu, eek, o⟩
  · exact h.elim) k
theorem e102 : Ent 19 (cI saL saH) := fun T k => tab_runK good (by kernel_rfl) (fun vs K h => by
  unfold cI at h; split at h
  · obtain ⟨⟨h1, h2⟩, h⟩ := h
    have o := VZdc.rSAddC (K := K) (s4 h1 h2) (h _ rfl _ rfl (li_sa h1 h2)); unfold VZda.nSAddC at o; exact ⟨[], EEk, true, 90, tab_nil, eek, o⟩
  · exact h.elim) k
theorem e133 : Ent 34 (cI saL saH) := fun T k => tab_runK good (by kernel_rfl) (fun vs K h => by
  unfold cI at h; split at h
  · obtain ⟨⟨h1, h2⟩, h⟩ := h
    have o := VZdc.rSAddR (K := K) (s4 h1 h2) (h _ rfl _ rfl (li_sa h1 h2)); unfold VZda.nSAddR at o; exact ⟨[], EEk, true, 90, tab_nil, eek, o⟩
  · exact h.elim) k
theorem e105 : Ent 20 (cI ssL ssH) := fun T k => tab_runK good (by kernel_rfl) (fun vs K h => by
  unfold cI at h; split at h
  · obtain ⟨⟨h1, h2⟩, h⟩ := h
    have o := VZdc.rSSubC (K := K) (s4 h1 h2) (h _ rfl _ rfl (li_ss h1 h2)); unfold VZda.nSSubC at o; exact ⟨[], EEk, true, 90, tab_nil, eek, o⟩
  · exact h.elim) k
theorem e136 : Ent 35 (cI ssL ssH) := fun T k => tab_runK good (by kernel_rfl) (fun vs K h => by
  unfold cI at h; split at h
  · obtain ⟨⟨h1, h2⟩, h⟩ := h
    have o := VZdc.rSSubR (K := K) (s4 h1 h2) (h _ rfl _ rfl (li_ss h1 h2)); unfold VZda.nSSubR at o; exact ⟨[], EEk, true, 90, tab_nil, eek, o⟩
  · exact h.elim) k
theorem e93 : Ent 48 (cUc) := fun T k => tab_runK good (by kernel_rfl) (fun vs K h => by
  unfold cUc at h; split at h
  · obtain ⟨h1, h⟩ := h
    have o := VZdb.rCutC (K := K) h1.pl h1.ph (h _ rfl _ rfl (lh_uc h1)); unfold VZda.nCutC at o; exact ⟨[], EEk, true, 90, tab_nil, eek, o⟩
  · exact h.elim) k
theorem e124 : Ent 69 (cUc) := fun T k => tab_runK good (by kernel_rfl) (fun vs K h => by
  unfold cUc at h; split at h
  · obtain ⟨h1, h⟩ := h
    have o := VZdb.rCutR (K := K) h1.pl h1.ph (h _ rfl _ rfl (lh_uc h1)); unfold VZda.nCutR at o; exact ⟨[], EEk, true, 90, tab_nil, eek, o⟩
  · exact h.elim) k
end Go.Proofs.Ytnephcecobocdaa.VZdq
end
