-- PRINTED by print.py (a twelfth state) out of the translation. Not trusted: Lean checks it.
import Derived.Test.YtnephcecobocdaaPA0
import Derived.Test.YtnephcecobocdaaSq
import Derived.Test.YtnephcecobocdaaPA18
import Derived.Test.YtnephcecobocdaaPA19
namespace Go.Proofs.Ytnephcecobocdaa.PA
open Go.RowKit Go.Proofs.YtnephcecobocdaaW.PrintWords Go.Proofs.YtnephcecobocdaaW.PrintLast Go.Proofs.YtnephcecobocdaaW.PrintMore
attribute [local go_sem] max2_int min2_int max_two min_two max_three min_three max_four min_four   -- for this text's walks alone
set_option linter.unusedVariables false
set_option linter.unusedSimpArgs false

/-! ### lockgateref04_UAnd: function 65 -/
def lockgateref04_UAnd.j0 : Nat → Bool → Int → Int → Int → Int → Option (Int × Int)
 | 0, _, _, _, _, _ => none
 | k + 1, x10, x670000, x670001, x671000, x671001 => if x10 = true then ((lockgateref04_UOf.f (Go.bits .and .u64 x670000 x671000)).bind fun bt674 => (some (bt674.1, bt674.2))) else (if x671001 < x670001 then (some (0, x671001)) else (some (0, x670001)))
def lockgateref04_UAnd.f (k : Nat) (a0_0 : Int) (a0_1 : Int) (a1_0 : Int) (a1_1 : Int) : Option (Int × Int) := (lockgateref04_alone.f a0_0 a0_1).bind fun t672 => (if t672 = true then ((lockgateref04_alone.f a1_0 a1_1).bind fun t673 => (lockgateref04_UAnd.j0 k t673 a0_0 a0_1 a1_0 a1_1)) else (lockgateref04_UAnd.j0 k false a0_0 a0_1 a1_0 a1_1))
theorem lockgateref04_UAnd.mono_l : ∀ k, (∀ y0 y1 y2 y3 y4, LeO (lockgateref04_UAnd.j0 k y0 y1 y2 y3 y4) (lockgateref04_UAnd.j0 (k + 1) y0 y1 y2 y3 y4))
 | 0 => fun _ _ _ _ _ r h => by simp [lockgateref04_UAnd.j0] at h
 | k + 1 => by
  have ih0 := lockgateref04_UAnd.mono_l k
  ·intro y0 y1 y2 y3 y4
   unfold lockgateref04_UAnd.j0
   repeat' first
   | (with_reducible exact ih0 _ _ _ _ _)
   | (with_reducible exact LeO.refl _)
   | (with_reducible exact LeO.none _)
   | (with_reducible refine LeO.ite ?_ ?_)
   | (with_reducible refine LeO.bind ?_ (fun _ => ?_))
   | exact ih0 _ _ _ _ _
   | exact LeO.none _
   | refine LeO.ite ?_ ?_
   | refine LeO.bind ?_ (fun _ => ?_)
theorem lockgateref04_UAnd.mono : ∀ a0 a1 a2 a3 k, LeO (lockgateref04_UAnd.f k a0 a1 a2 a3) (lockgateref04_UAnd.f (k + 1) a0 a1 a2 a3) := by
 intro a0 a1 a2 a3 k
 have ih0 := lockgateref04_UAnd.mono_l k
 unfold lockgateref04_UAnd.f
 repeat' first
  | (with_reducible exact ih0 _ _ _ _ _)
  | (with_reducible exact LeO.refl _)
  | (with_reducible exact LeO.none _)
  | (with_reducible refine LeO.ite ?_ ?_)
  | (with_reducible refine LeO.bind ?_ (fun _ => ?_))
  | exact ih0 _ _ _ _ _
  | exact LeO.none _
  | refine LeO.ite ?_ ?_
  | refine LeO.bind ?_ (fun _ => ?_)
set_option maxHeartbeats 8000000 in
set_option maxRecDepth 100000 in
theorem lockgateref04_UAnd.calls (k : Nat) (a0_0 : Int) (a0_1 : Int) (a1_0 : Int) (a1_1 : Int) (r1 : Int) (r2 : Int) (w : World) (h : lockgateref04_UAnd.f k a0_0 a0_1 a1_0 a1_1 = some (r1, r2)) :
 Calls Try.prog 65 #[.agg #[.int .u64 a0_0, .int .u64 a0_1], .agg #[.int .u64 a1_0, .int .u64 a1_1]] w fun e w' => e = .returned (.agg #[.int .u64 r1, .int .u64 r2]) ∧ Below w.heap.size w w' := by
 have hu26 := Try.underlying26
 have HB := Aside0.mk (Below.refl w.heap.size w)
 have H : ((lockgateref04_alone.f a0_0 a0_1).bind fun t672 => (if t672 = true then ((lockgateref04_alone.f a1_0 a1_1).bind fun t673 => (lockgateref04_UAnd.j0 k t673 a0_0 a0_1 a1_0 a1_1)) else (lockgateref04_UAnd.j0 k false a0_0 a0_1 a1_0 a1_1))) = some (r1, r2) := h
 clear h
 have HC3 := Aside0.mk H
 clear H
 go_enter Try.func65, Try.ntmps65
 go_upto_region 1 with (first | ((with_reducible refine gate_dst (N := 2) rfl ?_); refine bx_ 2 #[.int .u64 a0_0, .int .u64 a0_1] 26 ?_; intro gb669 hg w4 BK669 hb; have GW669 := bg_ hg; have GE669 := GW669; replace HB := bl_ hb; clear hb hg) | ((with_reducible refine gate_dst (N := 3) rfl ?_); refine bx_ 3 #[.int .u64 a1_0, .int .u64 a1_1] 26 ?_; intro gb670 hg w5 BK670 hb; have GW670 := bg_ hg; have GE670 := GW670; have NB669_670 := bm_ hg BK669; have NB670_669 := bn_ hg BK669; replace BK669 := bb_ hb BK669; replace HB := bl_ hb; clear hb hg) | ((with_reducible refine gate_dst (N := 4) rfl ?_); refine bx_ 4 #[.int .u64 0, .int .u64 0] 26 ?_; intro gb671 hg w6 BK671 hb; have GW671 := bg_ hg; have GE671 := GW671; have NB669_671 := bm_ hg BK669; have NB671_669 := bn_ hg BK669; have NB670_671 := bm_ hg BK670; have NB671_670 := bn_ hg BK670; replace BK669 := bb_ hb BK669; replace BK670 := bb_ hb BK670; replace HB := bl_ hb; clear hb hg))
 (try simp only [Act.put, s1_, s2_, s3_])
 go_cut [10] (fun v10 wc => ∃ (kq : Nat) (x10_2 : Bool), v10 = .bool x10_2 ∧ Aside0 (lockgateref04_UAnd.j0 kq x10_2 a0_0 a0_1 a1_0 a1_1 = some (r1, r2)) ∧ Aside0 (kq ≤ k) ∧ Aside0 (wc.heap[gb669]? = some (.cells #[.int .u64 a0_0, .int .u64 a0_1] 26 (0, 0))) ∧ Aside0 (wc.heap[gb670]? = some (.cells #[.int .u64 a1_0, .int .u64 a1_1] 26 (0, 0))) ∧ Aside0 (wc.heap[gb671]? = some (.cells #[.int .u64 0, .int .u64 0] 26 (0, 0))) ∧ Aside0 (Below w.heap.size w wc))
 case first =>
  have H := HC3.out
  clear HC3
  replace H := Option.bind_eq_some_iff.mp H
  obtain ⟨t672, A70, H⟩ := H
  replace H : (if t672 = true then ((lockgateref04_alone.f a1_0 a1_1).bind fun t673 => (lockgateref04_UAnd.j0 k t673 a0_0 a0_1 a1_0 a1_1)) else (lockgateref04_UAnd.j0 k false a0_0 a0_1 a1_0 a1_1)) = some (r1, r2) := H
  have A7 := Aside0.mk A70
  clear A70
  by_cases c8 : t672 = true
  ·subst c8
   have H1 : ((lockgateref04_alone.f a1_0 a1_1).bind fun t673 => (lockgateref04_UAnd.j0 k t673 a0_0 a0_1 a1_0 a1_1)) = some (r1, r2) := by rw [if_pos rfl] at H; exact H
   clear H
   have H := H1
   clear H1
   replace H := Option.bind_eq_some_iff.mp H
   obtain ⟨t673, A90, H⟩ := H
   replace H : (lockgateref04_UAnd.j0 k t673 a0_0 a0_1 a1_0 a1_1) = some (r1, r2) := H
   have A9 := Aside0.mk A90
   clear A90
   have H' := Aside0.mk H
   clear H
   have hnb10 := NB669_670.out
   have hnc10 := NB670_669.out
   have hnb11 := NB669_671.out
   have hnc11 := NB671_669.out
   have hcz12_0 := c0_ BK669
   have hcz12_1 := c1_ BK669
   have hfz12_0 := fz_ BK669 0
   have hfz12_1 := fz_ BK669 1
   go_wp2_with (first | ((with_reducible refine gate_callee (f := 92) rfl ?_); refine goesL_ (some 6) rfl rfl Try.func92 (by kernel_rfl) rfl #[.agg #[.int .u64 a0_0, .int .u64 a0_1]] rfl (by (try simp only [List.map_toArray, List.map_cons, List.map_nil]); first | done | rfl) ?_; (with_reducible refine (lockgateref04_alone.calls a0_0 a0_1 true _ A7.out).mono ?_); rintro e w13 ⟨rfl, hb⟩; refine ⟨_, rfl, ?_⟩; replace BK669 := bb_ hb BK669; replace BK670 := bb_ hb BK670; replace BK671 := bb_ hb BK671; replace HB := bl_ hb; (try clear hb); (try clear hb2); (try clear hk); (try clear hi); have hnb14 := NB670_671.out; have hnc14 := NB671_670.out; have hcz15_0 := c0_ BK670; have hcz15_1 := c1_ BK670; have hfz15_0 := fz_ BK670 0; have hfz15_1 := fz_ BK670 1) | (go_at_call 92; (with_reducible refine (lockgateref04_alone.calls a1_0 a1_1 t673 _ A9.out).mono ?_); rintro e w16 ⟨rfl, hb⟩; replace BK669 := bb_ hb BK669; replace BK670 := bb_ hb BK670; replace BK671 := bb_ hb BK671; replace HB := bl_ hb; (try clear hb); (try clear hb2); (try clear hk); (try clear hi)))
   go_meet
   case rel => exact ⟨_, (t673), (by first | rfl | (simp; done) | (simp [*]; done)), H', ⟨by first | omega | exact Nat.le_refl _⟩, ⟨by exact bk_⟩, ⟨by exact bk_⟩, ⟨by exact bk_⟩, ⟨by repeat (first | (with_reducible first | exact HB.out | apply lA_ | apply lN_ | apply lD_ | refine lS_ ?_ GE669.out | refine lS_ ?_ GE670.out | refine lS_ ?_ GE671.out) | exact HB.out)⟩⟩
  ·replace c8 := Bool.eq_false_iff.mpr c8
   subst c8
   have H1 : (lockgateref04_UAnd.j0 k false a0_0 a0_1 a1_0 a1_1) = some (r1, r2) := by rw [if_neg (show ¬ (false = true) by decide)] at H; exact H
   clear H
   have H := H1
   clear H1
   have H' := Aside0.mk H
   clear H
   have hnb17 := NB669_670.out
   have hnc17 := NB670_669.out
   have hnb18 := NB669_671.out
   have hnc18 := NB671_669.out
   have hcz19_0 := c0_ BK669
   have hcz19_1 := c1_ BK669
   have hfz19_0 := fz_ BK669 0
   have hfz19_1 := fz_ BK669 1
   go_wp2_with (first | ((with_reducible refine gate_callee (f := 92) rfl ?_); refine goesL_ (some 6) rfl rfl Try.func92 (by kernel_rfl) rfl #[.agg #[.int .u64 a0_0, .int .u64 a0_1]] rfl (by (try simp only [List.map_toArray, List.map_cons, List.map_nil]); first | done | rfl) ?_; (with_reducible refine (lockgateref04_alone.calls a0_0 a0_1 false _ A7.out).mono ?_); rintro e w20 ⟨rfl, hb⟩; refine ⟨_, rfl, ?_⟩; replace BK669 := bb_ hb BK669; replace BK670 := bb_ hb BK670; replace BK671 := bb_ hb BK671; replace HB := bl_ hb; (try clear hb); (try clear hb2); (try clear hk); (try clear hi)))
   go_meet
   case rel => exact ⟨_, (false), (by first | rfl | (simp; done) | (simp [*]; done)), H', ⟨by first | omega | exact Nat.le_refl _⟩, ⟨by exact bk_⟩, ⟨by exact bk_⟩, ⟨by exact bk_⟩, ⟨by repeat (first | (with_reducible first | exact HB.out | apply lA_ | apply lN_ | apply lD_ | refine lS_ ?_ GE669.out | refine lS_ ?_ GE670.out | refine lS_ ?_ GE671.out) | exact HB.out)⟩⟩
 case rest =>
  clear HC3
  try clear c1
  try clear p2
  try clear c6
  try clear c8
  try clear c9
  try clear c10
  try clear c11
  try clear c14
  try clear c17
  try clear c18
  try clear hcz12_0
  try clear hcz12_1
  try clear hcz15_0
  try clear hcz15_1
  try clear hcz19_0
  try clear hcz19_1
  try clear hfz12_0
  try clear hfz12_1
  try clear hfz15_0
  try clear hfz15_1
  try clear hfz19_0
  try clear hfz19_1
  obtain ⟨kq, x10_2, rfl, HA, HJ2, BK669, BK670, BK671, HB⟩ := hcut
  cases kq with
  | zero => exact absurd HA.out (by simp [lockgateref04_UAnd.j0])
  | succ kj2 =>
   have H := HA.out
   clear HA
   simp only [lockgateref04_UAnd.j0] at H
   by_cases c21 : x10_2 = true
   ·subst c21
    have H1 : ((lockgateref04_UOf.f (Go.bits .and .u64 a0_0 a1_0)).bind fun bt674 => (some (bt674.1, bt674.2))) = some (r1, r2) := by rw [if_pos rfl] at H; exact H
    clear H
    have H := H1
    clear H1
    replace H := Option.bind_eq_some_iff.mp H
    obtain ⟨⟨t674, t675⟩, A220, H⟩ := H
    replace H : (some (t674, t675)) = some (r1, r2) := H
    have A22 := Aside0.mk A220
    clear A220
    simp only [Option.some.injEq, Prod.mk.injEq] at H
    obtain ⟨rfl, rfl⟩ := H
    have hnb23 := NB669_670.out
    have hnc23 := NB670_669.out
    have hnb24 := NB669_671.out
    have hnc24 := NB671_669.out
    have hcz25_0 := c0_ BK669
    have hcz25_1 := c1_ BK669
    have hfz25_0 := fz_ BK669 0
    have hfz25_1 := fz_ BK669 1
    have hnb26 := NB670_671.out
    have hnc26 := NB671_670.out
    have hcz27_0 := c0_ BK670
    have hcz27_1 := c1_ BK670
    have hfz27_0 := fz_ BK670 0
    have hfz27_1 := fz_ BK670 1
    go_wp2_with (first | ((with_reducible refine gate_callee (f := 74) rfl ?_); refine goesL_ (some 16) rfl rfl Try.func74 (by kernel_rfl) rfl #[.int .u64 (Go.bits .and .u64 a0_0 a1_0)] rfl (by (try simp only [List.map_toArray, List.map_cons, List.map_nil]); first | done | rfl) ?_; (with_reducible refine (lockgateref04_UOf.calls (Go.bits .and .u64 a0_0 a1_0) t674 t675 _ A22.out).mono ?_); rintro e w28 ⟨rfl, hb⟩; refine ⟨_, rfl, ?_⟩; replace BK669 := bb_ hb BK669; replace BK670 := bb_ hb BK670; replace BK671 := bb_ hb BK671; replace HB := bl_ hb; (try clear hb); (try clear hb2); (try clear hk); (try clear hi); have hcz29_0 := c0_ BK671; have hcz29_1 := c1_ BK671; have hfz29_0 := fz_ BK671 0; have hfz29_1 := fz_ BK671 1))
    refine bodyPost_ret (results_cell_row rfl _ _ gb671 26 #[.int .u64 t674, .int .u64 t675] (0, 0) _ rfl (by (with_reducible repeat (first | apply bN_ | apply bD_ | apply bA_)); refine blk_put (cs := #[.int .u64 t674, .int .u64 0]) ?_ 1 _ rfl; (with_reducible repeat (first | apply bN_ | apply bD_ | apply bA_)); refine blk_put (cs := #[.int .u64 0, .int .u64 0]) ?_ 0 _ rfl; exact bk_) Try.underlying26 rfl (by kernel_rfl)) rfl ?_
    exact ⟨vv_, bz_⟩
   ·replace c21 := Bool.eq_false_iff.mpr c21
    subst c21
    have H1 : (if a1_1 < a0_1 then (some (0, a1_1)) else (some (0, a0_1))) = some (r1, r2) := by rw [if_neg (show ¬ (false = true) by decide)] at H; exact H
    clear H
    have H := H1
    clear H1
    by_cases c30 : a1_1 < a0_1
    ·rw [if_pos c30] at H
     have c30b0 : decide (a1_1 < a0_1) = true := decide_eq_true c30
     clear c30
     simp only [Option.some.injEq, Prod.mk.injEq] at H
     obtain ⟨rfl, rfl⟩ := H
     have hnb31 := NB670_669.out
     have hnc31 := NB669_670.out
     have hnb32 := NB670_671.out
     have hnc32 := NB671_670.out
     have hcz33_0 := c0_ BK670
     have hcz33_1 := c1_ BK670
     have hfz33_0 := fz_ BK670 0
     have hfz33_1 := fz_ BK670 1
     have hnb34 := NB669_671.out
     have hnc34 := NB671_669.out
     have hcz35_0 := c0_ BK669
     have hcz35_1 := c1_ BK669
     have hfz35_0 := fz_ BK669 0
     have hfz35_1 := fz_ BK669 1
     have hcz36_0 := c0_ BK671
     have hcz36_1 := c1_ BK671
     have hfz36_0 := fz_ BK671 0
     have hfz36_1 := fz_ BK671 1
     go_wp2
     refine bodyPost_ret (results_cell_row rfl _ _ gb671 26 #[.int .u64 0, .int .u64 a1_1] (0, 0) _ rfl (by (with_reducible repeat (first | apply bN_ | apply bD_ | apply bA_)); refine blk_put (cs := #[.int .u64 0, .int .u64 0]) ?_ 1 _ rfl; (with_reducible repeat (first | apply bN_ | apply bD_ | apply bA_)); refine blk_put (cs := #[.int .u64 0, .int .u64 0]) ?_ 0 _ rfl; exact bk_) Try.underlying26 rfl (by kernel_rfl)) rfl ?_
     exact ⟨vv_, bz_⟩
    ·rw [if_neg c30] at H
     have c30b0 : decide (a1_1 < a0_1) = false := decide_eq_false c30
     clear c30
     simp only [Option.some.injEq, Prod.mk.injEq] at H
     obtain ⟨rfl, rfl⟩ := H
     have hnb37 := NB670_669.out
     have hnc37 := NB669_670.out
     have hnb38 := NB670_671.out
     have hnc38 := NB671_670.out
     have hcz39_0 := c0_ BK670
     have hcz39_1 := c1_ BK670
     have hfz39_0 := fz_ BK670 0
     have hfz39_1 := fz_ BK670 1
     have hnb40 := NB669_671.out
     have hnc40 := NB671_669.out
     have hcz41_0 := c0_ BK669
     have hcz41_1 := c1_ BK669
     have hfz41_0 := fz_ BK669 0
     have hfz41_1 := fz_ BK669 1
     have hcz42_0 := c0_ BK671
     have hcz42_1 := c1_ BK671
     have hfz42_0 := fz_ BK671 0
     have hfz42_1 := fz_ BK671 1
     go_wp2
     refine bodyPost_ret (results_cell_row rfl _ _ gb671 26 #[.int .u64 0, .int .u64 a0_1] (0, 0) _ rfl (by (with_reducible repeat (first | apply bN_ | apply bD_ | apply bA_)); refine blk_put (cs := #[.int .u64 0, .int .u64 0]) ?_ 1 _ rfl; (with_reducible repeat (first | apply bN_ | apply bD_ | apply bA_)); refine blk_put (cs := #[.int .u64 0, .int .u64 0]) ?_ 0 _ rfl; exact bk_) Try.underlying26 rfl (by kernel_rfl)) rfl ?_
     exact ⟨vv_, bz_⟩

/-! ### lockgateref04_full: function 93 -/
def lockgateref04_full.l0 : Nat → Int → Int → Option (Int)
 | 0, _, _ => none
 | k + 1, x0, x3 => if x3 < x0 then (lockgateref04_full.l0 k x0 (IntKind.u64.wrap ((IntKind.u64.wrap (2 * x3)) + 1))) else (some x3)
def lockgateref04_full.f (k : Nat) (a0 : Int) : Option (Int) := lockgateref04_full.l0 k a0 0
theorem lockgateref04_full.mono_l : ∀ k, (∀ y0 y1, LeO (lockgateref04_full.l0 k y0 y1) (lockgateref04_full.l0 (k + 1) y0 y1))
 | 0 => fun _ _ r h => by simp [lockgateref04_full.l0] at h
 | k + 1 => by
  have ih0 := lockgateref04_full.mono_l k
  ·intro y0 y1
   unfold lockgateref04_full.l0
   repeat' first
   | (with_reducible exact ih0 _ _)
   | (with_reducible exact LeO.refl _)
   | (with_reducible exact LeO.none _)
   | (with_reducible refine LeO.ite ?_ ?_)
   | (with_reducible refine LeO.bind ?_ (fun _ => ?_))
   | exact ih0 _ _
   | exact LeO.none _
   | refine LeO.ite ?_ ?_
   | refine LeO.bind ?_ (fun _ => ?_)
theorem lockgateref04_full.mono : ∀ a0 k, LeO (lockgateref04_full.f k a0) (lockgateref04_full.f (k + 1) a0) := by
 intro a0 k
 have ih0 := lockgateref04_full.mono_l k
 unfold lockgateref04_full.f
 repeat' first
  | (with_reducible exact ih0 _ _)
  | (with_reducible exact LeO.refl _)
  | (with_reducible exact LeO.none _)
  | (with_reducible refine LeO.ite ?_ ?_)
  | (with_reducible refine LeO.bind ?_ (fun _ => ?_))
  | exact ih0 _ _
  | exact LeO.none _
  | refine LeO.ite ?_ ?_
  | refine LeO.bind ?_ (fun _ => ?_)
set_option maxHeartbeats 8000000 in
set_option maxRecDepth 100000 in
theorem lockgateref04_full.calls (k : Nat) (a0 : Int) (r : Int) (w : World) (h : lockgateref04_full.f k a0 = some r) :
 Calls Try.prog 93 #[.int .u64 a0] w fun e w' => e = .returned (.int .u64 r) ∧ Drawn0 w w' := by
 have H : (lockgateref04_full.l0 k a0 0) = some r := h
 clear h
 have H' := Aside0.mk H
 clear H
 go_enter Try.func93, Try.ntmps93
 go_wp2
 go_loopg [3] k (fun kq v3 w' => ∃ (x3_1 : Int), v3 = .int .u64 x3_1 ∧ Aside0 (lockgateref04_full.l0 kq a0 x3_1 = some r) ∧ Aside0 (kq ≤ k) ∧ Drawn0 w w')
 case atStart => exact ⟨(0), (by first | rfl | (simp; done) | (simp [*]; done)), H', ⟨Nat.le_refl _⟩, by repeat (first | exact Drawn0.refl _ | apply Drawn0.step)⟩
 case round =>
  clear H'
  obtain ⟨x3_1, rfl, HA, HK1, ⟨m1, rfl⟩⟩ := hrel
  cases gk with
  | zero => exact absurd HA.out (by simp [lockgateref04_full.l0])
  | succ k1 =>
   have H := HA.out
   clear HA
   simp only [lockgateref04_full.l0] at H
   by_cases c2 : x3_1 < a0
   ·rw [if_pos c2] at H
    have c2b0 : decide (x3_1 < a0) = true := decide_eq_true c2
    clear c2
    have H' := Aside0.mk H
    clear H
    go_wp2
    go_roundg k1
    case measure => have := HK1.out; omega
    case rel => exact ⟨(IntKind.u64.wrap ((IntKind.u64.wrap (2 * x3_1)) + 1)), (by first | rfl | (simp; done) | (simp [*]; done)), H', ⟨by have := HK1.out; omega⟩, by repeat (first | exact Drawn0.refl _ | apply Drawn0.step)⟩
   ·rw [if_neg c2] at H
    have c2b0 : decide (x3_1 < a0) = false := decide_eq_false c2
    clear c2
    obtain rfl := Option.some.inj H
    go_wp2
    go_ret
    exact ⟨by first | rfl | (simp; done) | (simp [*]; done), by repeat (first | exact Drawn0.refl _ | apply Drawn0.step)⟩

end Go.Proofs.Ytnephcecobocdaa.PA
