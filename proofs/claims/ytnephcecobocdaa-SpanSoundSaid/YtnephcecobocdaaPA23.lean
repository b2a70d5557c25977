-- PRINTED by print.py (a twelfth state) out of the translation. Not trusted: Lean checks it.
import Derived.Test.YtnephcecobocdaaPA0
import Derived.Test.YtnephcecobocdaaSq
import Derived.Test.YtnephcecobocdaaPA12
import Derived.Test.YtnephcecobocdaaPA15
namespace Go.Proofs.Ytnephcecobocdaa.PA
open Go.RowKit Go.Proofs.YtnephcecobocdaaW.PrintWords Go.Proofs.YtnephcecobocdaaW.PrintLast Go.Proofs.YtnephcecobocdaaW.PrintMore
attribute [local go_sem] max2_int min2_int max_two min_two max_three min_three max_four min_four   -- for this text's walks alone
set_option linter.unusedVariables false
set_option linter.unusedSimpArgs false

/-! ### lockgateref04_ULsh: function 67 -/
def lockgateref04_ULsh.l0 : Nat → Int → Int → Int → Int → Option (Int × Int)
 | 0, _, _, _, _ => none
 | k + 1, x1, x5, x688000, x688001 => (lockgateref04_round.f x1).bind fun t689 => (if x5 < t689 then ((lockgateref04_top.f).bind fun t690 => (if x688001 ≥ t690 then ((lockgateref04_UAll.f).bind fun bt691 => (some (bt691.1, bt691.2))) else (lockgateref04_ULsh.l0 k x1 (wrap64 (x5 + 1)) (IntKind.u64.wrap (2 * x688000)) (IntKind.u64.wrap (2 * x688001))))) else (some (x688000, x688001)))
def lockgateref04_ULsh.f (k : Nat) (a0_0 : Int) (a0_1 : Int) (a1 : Int) : Option (Int × Int) := lockgateref04_ULsh.l0 k a1 0 a0_0 a0_1
theorem lockgateref04_ULsh.mono_l : ∀ k, (∀ y0 y1 y2 y3, LeO (lockgateref04_ULsh.l0 k y0 y1 y2 y3) (lockgateref04_ULsh.l0 (k + 1) y0 y1 y2 y3))
 | 0 => fun _ _ _ _ r h => by simp [lockgateref04_ULsh.l0] at h
 | k + 1 => by
  have ih0 := lockgateref04_ULsh.mono_l k
  ·intro y0 y1 y2 y3
   unfold lockgateref04_ULsh.l0
   repeat' first
   | (with_reducible exact ih0 _ _ _ _)
   | (with_reducible exact LeO.refl _)
   | (with_reducible exact LeO.none _)
   | (with_reducible refine LeO.ite ?_ ?_)
   | (with_reducible refine LeO.bind ?_ (fun _ => ?_))
   | exact ih0 _ _ _ _
   | exact LeO.none _
   | refine LeO.ite ?_ ?_
   | refine LeO.bind ?_ (fun _ => ?_)
theorem lockgateref04_ULsh.mono : ∀ a0 a1 a2 k, LeO (lockgateref04_ULsh.f k a0 a1 a2) (lockgateref04_ULsh.f (k + 1) a0 a1 a2) := by
 intro a0 a1 a2 k
 have ih0 := lockgateref04_ULsh.mono_l k
 unfold lockgateref04_ULsh.f
 repeat' first
  | (with_reducible exact ih0 _ _ _ _)
  | (with_reducible exact LeO.refl _)
  | (with_reducible exact LeO.none _)
  | (with_reducible refine LeO.ite ?_ ?_)
  | (with_reducible refine LeO.bind ?_ (fun _ => ?_))
  | exact ih0 _ _ _ _
  | exact LeO.none _
  | refine LeO.ite ?_ ?_
  | refine LeO.bind ?_ (fun _ => ?_)
set_option maxHeartbeats 8000000 in
set_option maxRecDepth 100000 in
theorem lockgateref04_ULsh.calls (k : Nat) (a0_0 : Int) (a0_1 : Int) (a1 : Int) (r1 : Int) (r2 : Int) (w : World) (h : lockgateref04_ULsh.f k a0_0 a0_1 a1 = some (r1, r2)) :
 Calls Try.prog 67 #[.agg #[.int .u64 a0_0, .int .u64 a0_1], .int .i64 a1] w fun e w' => e = .returned (.agg #[.int .u64 r1, .int .u64 r2]) ∧ Below w.heap.size w w' := by
 have hu26 := Try.underlying26
 have HB := Aside0.mk (Below.refl w.heap.size w)
 have H : (lockgateref04_ULsh.l0 k a1 0 a0_0 a0_1) = some (r1, r2) := h
 clear h
 have H' := Aside0.mk H
 clear H
 go_enter Try.func67, Try.ntmps67
 go_wp2_with (first | ((with_reducible refine gate_dst (N := 2) rfl ?_); refine bx_ 2 #[.int .u64 a0_0, .int .u64 a0_1] 26 ?_; intro gb687 hg w3 BK687 hb; have GW687 := bg_ hg; have GE687 := GW687; replace HB := bl_ hb; clear hb hg; have hcqgb687_0 := c0_ BK687; have hfqgb687_0 := fz_ BK687 0; have hcqgb687_1 := c1_ BK687; have hfqgb687_1 := fz_ BK687 1) | ((with_reducible refine gate_dst (N := 4) rfl ?_); refine bx_ 4 #[.int .u64 0, .int .u64 0] 26 ?_; intro gb688 hg w4 BK688 hb; have GW688 := bg_ hg; have GE688 := GW688; have NB687_688 := bm_ hg BK687; have NB688_687 := bn_ hg BK687; replace BK687 := bb_ hb BK687; replace HB := bl_ hb; clear hb hg; have hcqgb688_0 := c0_ BK688; have hfqgb688_0 := fz_ BK688 0; have hcqgb688_1 := c1_ BK688; have hfqgb688_1 := fz_ BK688 1))
 repeat (go_quiet (first | ((with_reducible refine gate_dst (N := 2) rfl ?_); refine bx_ 2 #[.int .u64 a0_0, .int .u64 a0_1] 26 ?_; intro gb687 hg w3 BK687 hb; have GW687 := bg_ hg; have GE687 := GW687; replace HB := bl_ hb; clear hb hg; have hcqgb687_0 := c0_ BK687; have hfqgb687_0 := fz_ BK687 0; have hcqgb687_1 := c1_ BK687; have hfqgb687_1 := fz_ BK687 1) | ((with_reducible refine gate_dst (N := 4) rfl ?_); refine bx_ 4 #[.int .u64 0, .int .u64 0] 26 ?_; intro gb688 hg w4 BK688 hb; have GW688 := bg_ hg; have GE688 := GW688; have NB687_688 := bm_ hg BK687; have NB688_687 := bn_ hg BK687; replace BK687 := bb_ hb BK687; replace HB := bl_ hb; clear hb hg; have hcqgb688_0 := c0_ BK688; have hfqgb688_0 := fz_ BK688 0; have hcqgb688_1 := c1_ BK688; have hfqgb688_1 := fz_ BK688 1)); try go_wp2_with (first | ((with_reducible refine gate_dst (N := 2) rfl ?_); refine bx_ 2 #[.int .u64 a0_0, .int .u64 a0_1] 26 ?_; intro gb687 hg w3 BK687 hb; have GW687 := bg_ hg; have GE687 := GW687; replace HB := bl_ hb; clear hb hg; have hcqgb687_0 := c0_ BK687; have hfqgb687_0 := fz_ BK687 0; have hcqgb687_1 := c1_ BK687; have hfqgb687_1 := fz_ BK687 1) | ((with_reducible refine gate_dst (N := 4) rfl ?_); refine bx_ 4 #[.int .u64 0, .int .u64 0] 26 ?_; intro gb688 hg w4 BK688 hb; have GW688 := bg_ hg; have GE688 := GW688; have NB687_688 := bm_ hg BK687; have NB688_687 := bn_ hg BK687; replace BK687 := bb_ hb BK687; replace HB := bl_ hb; clear hb hg; have hcqgb688_0 := c0_ BK688; have hfqgb688_0 := fz_ BK688 0; have hcqgb688_1 := c1_ BK688; have hfqgb688_1 := fz_ BK688 1)))
 go_loopg [5] k (fun kq v5 w' => ∃ (x5_1 : Int) (x688000_1 : Int) (x688001_1 : Int) (x689000_1 : Int) (x689001_1 : Int), v5 = .int .i64 x5_1 ∧ Aside0 (lockgateref04_ULsh.l0 kq a1 x5_1 x688000_1 x688001_1 = some (r1, r2)) ∧ Aside0 (kq ≤ k) ∧ Aside0 (w'.heap[gb687]? = some (.cells #[.int .u64 x688000_1, .int .u64 x688001_1] 26 (0, 0))) ∧ Aside0 (w'.heap[gb688]? = some (.cells #[.int .u64 x689000_1, .int .u64 x689001_1] 26 (0, 0))) ∧ Aside0 (Below w.heap.size w w'))
 case atStart => exact ⟨(0), (a0_0), (a0_1), (0), (0), (by first | rfl | (simp; done) | (simp [*]; done)), H', ⟨Nat.le_refl _⟩, ⟨by exact bk_⟩, ⟨by exact bk_⟩, ⟨by repeat (first | (with_reducible first | exact HB.out | apply lA_ | apply lN_ | apply lD_ | refine lS_ ?_ GE687.out | refine lS_ ?_ GE688.out) | exact HB.out)⟩⟩
 case round =>
  clear H'
  try clear p2
  obtain ⟨x5_1, x688000_1, x688001_1, x689000_1, x689001_1, rfl, HA, HK1, BK687, BK688, HB⟩ := hrel
  cases gk with
  | zero => exact absurd HA.out (by simp [lockgateref04_ULsh.l0])
  | succ k1 =>
   have H := HA.out
   clear HA
   simp only [lockgateref04_ULsh.l0] at H
   replace H := Option.bind_eq_some_iff.mp H
   obtain ⟨t689, A50, H⟩ := H
   replace H : (if x5_1 < t689 then ((lockgateref04_top.f).bind fun t690 => (if x688001_1 ≥ t690 then ((lockgateref04_UAll.f).bind fun bt691 => (some (bt691.1, bt691.2))) else (lockgateref04_ULsh.l0 k1 a1 (wrap64 (x5_1 + 1)) (IntKind.u64.wrap (2 * x688000_1)) (IntKind.u64.wrap (2 * x688001_1))))) else (some (x688000_1, x688001_1))) = some (r1, r2) := H
   have A5 := Aside0.mk A50
   clear A50
   by_cases c6 : x5_1 < t689
   ·rw [if_pos c6] at H
    have c6b0 : decide (x5_1 < t689) = true := decide_eq_true c6
    clear c6
    replace H := Option.bind_eq_some_iff.mp H
    obtain ⟨t690, A70, H⟩ := H
    replace H : (if x688001_1 ≥ t690 then ((lockgateref04_UAll.f).bind fun bt691 => (some (bt691.1, bt691.2))) else (lockgateref04_ULsh.l0 k1 a1 (wrap64 (x5_1 + 1)) (IntKind.u64.wrap (2 * x688000_1)) (IntKind.u64.wrap (2 * x688001_1)))) = some (r1, r2) := H
    have A7 := Aside0.mk A70
    clear A70
    by_cases c8 : x688001_1 ≥ t690
    ·rw [if_pos c8] at H
     have c8b0 : decide (t690 ≤ x688001_1) = true := decide_eq_true c8
     clear c8
     replace H := Option.bind_eq_some_iff.mp H
     obtain ⟨⟨t691, t692⟩, A90, H⟩ := H
     replace H : (some (t691, t692)) = some (r1, r2) := H
     have A9 := Aside0.mk A90
     clear A90
     simp only [Option.some.injEq, Prod.mk.injEq] at H
     obtain ⟨rfl, rfl⟩ := H
     go_wp2_with (first | (go_at_call 87; (with_reducible refine (lockgateref04_round.calls a1 t689 _ A5.out).mono ?_); rintro e w' ⟨rfl, ⟨nd, rfl⟩⟩; (try first | exact ⟨rfl, _, World.drewN_drewN _ _ _⟩ | exact ⟨rfl, _, Eq.trans (World.drewN_drewN _ _ _) (congrArg (World.drewN _) (Nat.add_assoc _ _ _))⟩); have hnb10 := NB687_688.out; have hnc10 := NB688_687.out; have hcz11_0 := c0_ BK687; have hcz11_1 := c1_ BK687; have hfz11_0 := fz_ BK687 0; have hfz11_1 := fz_ BK687 1) | (go_at_call 75; (with_reducible refine (lockgateref04_top.calls  t690 _ A7.out).mono ?_); rintro e w' ⟨rfl, ⟨nd, rfl⟩⟩; (try first | exact ⟨rfl, _, World.drewN_drewN _ _ _⟩ | exact ⟨rfl, _, Eq.trans (World.drewN_drewN _ _ _) (congrArg (World.drewN _) (Nat.add_assoc _ _ _))⟩)) | (go_at_call 73; (with_reducible refine (lockgateref04_UAll.calls  t691 t692 _ A9.out).mono ?_); rintro e w12 ⟨rfl, hb⟩; replace BK687 := bb_ hb BK687; replace BK688 := bb_ hb BK688; replace HB := bl_ hb; (try clear hb); (try clear hb2); (try clear hk); (try clear hi); have hcz13_0 := c0_ BK688; have hcz13_1 := c1_ BK688; have hfz13_0 := fz_ BK688 0; have hfz13_1 := fz_ BK688 1))
     repeat (go_quiet (first | (go_at_call 87; (with_reducible refine (lockgateref04_round.calls a1 t689 _ A5.out).mono ?_); rintro e w' ⟨rfl, ⟨nd, rfl⟩⟩; (try first | exact ⟨rfl, _, World.drewN_drewN _ _ _⟩ | exact ⟨rfl, _, Eq.trans (World.drewN_drewN _ _ _) (congrArg (World.drewN _) (Nat.add_assoc _ _ _))⟩); have hnb10 := NB687_688.out; have hnc10 := NB688_687.out; have hcz11_0 := c0_ BK687; have hcz11_1 := c1_ BK687; have hfz11_0 := fz_ BK687 0; have hfz11_1 := fz_ BK687 1) | (go_at_call 75; (with_reducible refine (lockgateref04_top.calls  t690 _ A7.out).mono ?_); rintro e w' ⟨rfl, ⟨nd, rfl⟩⟩; (try first | exact ⟨rfl, _, World.drewN_drewN _ _ _⟩ | exact ⟨rfl, _, Eq.trans (World.drewN_drewN _ _ _) (congrArg (World.drewN _) (Nat.add_assoc _ _ _))⟩)) | (go_at_call 73; (with_reducible refine (lockgateref04_UAll.calls  t691 t692 _ A9.out).mono ?_); rintro e w12 ⟨rfl, hb⟩; replace BK687 := bb_ hb BK687; replace BK688 := bb_ hb BK688; replace HB := bl_ hb; (try clear hb); (try clear hb2); (try clear hk); (try clear hi); have hcz13_0 := c0_ BK688; have hcz13_1 := c1_ BK688; have hfz13_0 := fz_ BK688 0; have hfz13_1 := fz_ BK688 1)); try go_wp2_with (first | (go_at_call 87; (with_reducible refine (lockgateref04_round.calls a1 t689 _ A5.out).mono ?_); rintro e w' ⟨rfl, ⟨nd, rfl⟩⟩; (try first | exact ⟨rfl, _, World.drewN_drewN _ _ _⟩ | exact ⟨rfl, _, Eq.trans (World.drewN_drewN _ _ _) (congrArg (World.drewN _) (Nat.add_assoc _ _ _))⟩); have hnb10 := NB687_688.out; have hnc10 := NB688_687.out; have hcz11_0 := c0_ BK687; have hcz11_1 := c1_ BK687; have hfz11_0 := fz_ BK687 0; have hfz11_1 := fz_ BK687 1) | (go_at_call 75; (with_reducible refine (lockgateref04_top.calls  t690 _ A7.out).mono ?_); rintro e w' ⟨rfl, ⟨nd, rfl⟩⟩; (try first | exact ⟨rfl, _, World.drewN_drewN _ _ _⟩ | exact ⟨rfl, _, Eq.trans (World.drewN_drewN _ _ _) (congrArg (World.drewN _) (Nat.add_assoc _ _ _))⟩)) | (go_at_call 73; (with_reducible refine (lockgateref04_UAll.calls  t691 t692 _ A9.out).mono ?_); rintro e w12 ⟨rfl, hb⟩; replace BK687 := bb_ hb BK687; replace BK688 := bb_ hb BK688; replace HB := bl_ hb; (try clear hb); (try clear hb2); (try clear hk); (try clear hi); have hcz13_0 := c0_ BK688; have hcz13_1 := c1_ BK688; have hfz13_0 := fz_ BK688 0; have hfz13_1 := fz_ BK688 1)))
     refine bodyPost_ret (results_cell_row rfl _ _ gb688 26 #[.int .u64 t691, .int .u64 t692] (0, 0) _ rfl (by (with_reducible repeat (first | apply bN_ | apply bD_ | apply bA_)); refine blk_put (cs := #[.int .u64 t691, .int .u64 x689001_1]) ?_ 1 _ rfl; (with_reducible repeat (first | apply bN_ | apply bD_ | apply bA_)); refine blk_put (cs := #[.int .u64 x689000_1, .int .u64 x689001_1]) ?_ 0 _ rfl; exact bk_) Try.underlying26 rfl (by kernel_rfl)) rfl ?_
     exact ⟨vv_, bz_⟩
    ·rw [if_neg c8] at H
     have c8b0 : decide (t690 ≤ x688001_1) = false := decide_eq_false c8
     clear c8
     have H' := Aside0.mk H
     clear H
     go_wp2_with (first | (go_at_call 87; (with_reducible refine (lockgateref04_round.calls a1 t689 _ A5.out).mono ?_); rintro e w' ⟨rfl, ⟨nd, rfl⟩⟩; (try first | exact ⟨rfl, _, World.drewN_drewN _ _ _⟩ | exact ⟨rfl, _, Eq.trans (World.drewN_drewN _ _ _) (congrArg (World.drewN _) (Nat.add_assoc _ _ _))⟩); have hnb14 := NB687_688.out; have hnc14 := NB688_687.out; have hcz15_0 := c0_ BK687; have hcz15_1 := c1_ BK687; have hfz15_0 := fz_ BK687 0; have hfz15_1 := fz_ BK687 1) | (go_at_call 75; (with_reducible refine (lockgateref04_top.calls  t690 _ A7.out).mono ?_); rintro e w' ⟨rfl, ⟨nd, rfl⟩⟩; (try first | exact ⟨rfl, _, World.drewN_drewN _ _ _⟩ | exact ⟨rfl, _, Eq.trans (World.drewN_drewN _ _ _) (congrArg (World.drewN _) (Nat.add_assoc _ _ _))⟩)))
     repeat (go_quiet (first | (go_at_call 87; (with_reducible refine (lockgateref04_round.calls a1 t689 _ A5.out).mono ?_); rintro e w' ⟨rfl, ⟨nd, rfl⟩⟩; (try first | exact ⟨rfl, _, World.drewN_drewN _ _ _⟩ | exact ⟨rfl, _, Eq.trans (World.drewN_drewN _ _ _) (congrArg (World.drewN _) (Nat.add_assoc _ _ _))⟩); have hnb14 := NB687_688.out; have hnc14 := NB688_687.out; have hcz15_0 := c0_ BK687; have hcz15_1 := c1_ BK687; have hfz15_0 := fz_ BK687 0; have hfz15_1 := fz_ BK687 1) | (go_at_call 75; (with_reducible refine (lockgateref04_top.calls  t690 _ A7.out).mono ?_); rintro e w' ⟨rfl, ⟨nd, rfl⟩⟩; (try first | exact ⟨rfl, _, World.drewN_drewN _ _ _⟩ | exact ⟨rfl, _, Eq.trans (World.drewN_drewN _ _ _) (congrArg (World.drewN _) (Nat.add_assoc _ _ _))⟩))); try go_wp2_with (first | (go_at_call 87; (with_reducible refine (lockgateref04_round.calls a1 t689 _ A5.out).mono ?_); rintro e w' ⟨rfl, ⟨nd, rfl⟩⟩; (try first | exact ⟨rfl, _, World.drewN_drewN _ _ _⟩ | exact ⟨rfl, _, Eq.trans (World.drewN_drewN _ _ _) (congrArg (World.drewN _) (Nat.add_assoc _ _ _))⟩); have hnb14 := NB687_688.out; have hnc14 := NB688_687.out; have hcz15_0 := c0_ BK687; have hcz15_1 := c1_ BK687; have hfz15_0 := fz_ BK687 0; have hfz15_1 := fz_ BK687 1) | (go_at_call 75; (with_reducible refine (lockgateref04_top.calls  t690 _ A7.out).mono ?_); rintro e w' ⟨rfl, ⟨nd, rfl⟩⟩; (try first | exact ⟨rfl, _, World.drewN_drewN _ _ _⟩ | exact ⟨rfl, _, Eq.trans (World.drewN_drewN _ _ _) (congrArg (World.drewN _) (Nat.add_assoc _ _ _))⟩))))
     go_roundg k1
     case measure => have := HK1.out; omega
     case rel => exact ⟨(wrap64 (x5_1 + 1)), (IntKind.u64.wrap (2 * x688000_1)), (IntKind.u64.wrap (2 * x688001_1)), (x689000_1), (x689001_1), (by first | rfl | (simp; done) | (simp [*]; done)), H', ⟨by have := HK1.out; omega⟩, ⟨by (with_reducible repeat (first | apply bN_ | apply bD_ | apply bA_)); refine blk_put (cs := #[.int .u64 (IntKind.u64.wrap (2 * x688000_1)), .int .u64 x688001_1]) ?_ 1 _ rfl; (with_reducible repeat (first | apply bN_ | apply bD_ | apply bA_)); refine blk_put (cs := #[.int .u64 x688000_1, .int .u64 x688001_1]) ?_ 0 _ rfl; exact bk_⟩, ⟨by (with_reducible repeat (first | apply bN_ | apply bD_ | apply bA_)); refine blk_far ?_ NB688_687.out _; (with_reducible repeat (first | apply bN_ | apply bD_ | apply bA_)); refine blk_far ?_ NB688_687.out _; exact bk_⟩, ⟨by repeat (first | (with_reducible first | exact HB.out | apply lA_ | apply lN_ | apply lD_ | refine lS_ ?_ GE687.out | refine lS_ ?_ GE688.out) | exact HB.out)⟩⟩
   ·rw [if_neg c6] at H
    have c6b0 : decide (x5_1 < t689) = false := decide_eq_false c6
    clear c6
    simp only [Option.some.injEq, Prod.mk.injEq] at H
    obtain ⟨rfl, rfl⟩ := H
    go_wp2_with (first | (go_at_call 87; (with_reducible refine (lockgateref04_round.calls a1 t689 _ A5.out).mono ?_); rintro e w' ⟨rfl, ⟨nd, rfl⟩⟩; (try first | exact ⟨rfl, _, World.drewN_drewN _ _ _⟩ | exact ⟨rfl, _, Eq.trans (World.drewN_drewN _ _ _) (congrArg (World.drewN _) (Nat.add_assoc _ _ _))⟩); have hnb16 := NB687_688.out; have hnc16 := NB688_687.out; have hcz17_0 := c0_ BK687; have hcz17_1 := c1_ BK687; have hfz17_0 := fz_ BK687 0; have hfz17_1 := fz_ BK687 1; have hcz18_0 := c0_ BK688; have hcz18_1 := c1_ BK688; have hfz18_0 := fz_ BK688 0; have hfz18_1 := fz_ BK688 1))
    repeat (go_quiet (first | (go_at_call 87; (with_reducible refine (lockgateref04_round.calls a1 t689 _ A5.out).mono ?_); rintro e w' ⟨rfl, ⟨nd, rfl⟩⟩; (try first | exact ⟨rfl, _, World.drewN_drewN _ _ _⟩ | exact ⟨rfl, _, Eq.trans (World.drewN_drewN _ _ _) (congrArg (World.drewN _) (Nat.add_assoc _ _ _))⟩); have hnb16 := NB687_688.out; have hnc16 := NB688_687.out; have hcz17_0 := c0_ BK687; have hcz17_1 := c1_ BK687; have hfz17_0 := fz_ BK687 0; have hfz17_1 := fz_ BK687 1; have hcz18_0 := c0_ BK688; have hcz18_1 := c1_ BK688; have hfz18_0 := fz_ BK688 0; have hfz18_1 := fz_ BK688 1)); try go_wp2_with (first | (go_at_call 87; (with_reducible refine (lockgateref04_round.calls a1 t689 _ A5.out).mono ?_); rintro e w' ⟨rfl, ⟨nd, rfl⟩⟩; (try first | exact ⟨rfl, _, World.drewN_drewN _ _ _⟩ | exact ⟨rfl, _, Eq.trans (World.drewN_drewN _ _ _) (congrArg (World.drewN _) (Nat.add_assoc _ _ _))⟩); have hnb16 := NB687_688.out; have hnc16 := NB688_687.out; have hcz17_0 := c0_ BK687; have hcz17_1 := c1_ BK687; have hfz17_0 := fz_ BK687 0; have hfz17_1 := fz_ BK687 1; have hcz18_0 := c0_ BK688; have hcz18_1 := c1_ BK688; have hfz18_0 := fz_ BK688 0; have hfz18_1 := fz_ BK688 1)))
    refine bodyPost_ret (results_cell_row rfl _ _ gb688 26 #[.int .u64 x688000_1, .int .u64 x688001_1] (0, 0) _ rfl (by (with_reducible repeat (first | apply bN_ | apply bD_ | apply bA_)); refine blk_put (cs := #[.int .u64 x688000_1, .int .u64 x689001_1]) ?_ 1 _ rfl; (with_reducible repeat (first | apply bN_ | apply bD_ | apply bA_)); refine blk_put (cs := #[.int .u64 x689000_1, .int .u64 x689001_1]) ?_ 0 _ rfl; exact bk_) Try.underlying26 rfl (by kernel_rfl)) rfl ?_
    exact ⟨vv_, bz_⟩

/-! ### lockgateref04_URsh: function 68 -/
def lockgateref04_URsh.l0 : Nat → Int → Int → Int → Int → Option (Int × Int)
 | 0, _, _, _, _ => none
 | k + 1, x1, x5, x694000, x694001 => (lockgateref04_round.f x1).bind fun t695 => (if x5 < t695 then (lockgateref04_URsh.l0 k x1 (wrap64 (x5 + 1)) (IntKind.u64.wrap (Int.tdiv x694000 2)) (IntKind.u64.wrap (Int.tdiv x694001 2))) else (some (x694000, x694001)))
def lockgateref04_URsh.f (k : Nat) (a0_0 : Int) (a0_1 : Int) (a1 : Int) : Option (Int × Int) := lockgateref04_URsh.l0 k a1 0 a0_0 a0_1
theorem lockgateref04_URsh.mono_l : ∀ k, (∀ y0 y1 y2 y3, LeO (lockgateref04_URsh.l0 k y0 y1 y2 y3) (lockgateref04_URsh.l0 (k + 1) y0 y1 y2 y3))
 | 0 => fun _ _ _ _ r h => by simp [lockgateref04_URsh.l0] at h
 | k + 1 => by
  have ih0 := lockgateref04_URsh.mono_l k
  ·intro y0 y1 y2 y3
   unfold lockgateref04_URsh.l0
   repeat' first
   | (with_reducible exact ih0 _ _ _ _)
   | (with_reducible exact LeO.refl _)
   | (with_reducible exact LeO.none _)
   | (with_reducible refine LeO.ite ?_ ?_)
   | (with_reducible refine LeO.bind ?_ (fun _ => ?_))
   | exact ih0 _ _ _ _
   | exact LeO.none _
   | refine LeO.ite ?_ ?_
   | refine LeO.bind ?_ (fun _ => ?_)
theorem lockgateref04_URsh.mono : ∀ a0 a1 a2 k, LeO (lockgateref04_URsh.f k a0 a1 a2) (lockgateref04_URsh.f (k + 1) a0 a1 a2) := by
 intro a0 a1 a2 k
 have ih0 := lockgateref04_URsh.mono_l k
 unfold lockgateref04_URsh.f
 repeat' first
  | (with_reducible exact ih0 _ _ _ _)
  | (with_reducible exact LeO.refl _)
  | (with_reducible exact LeO.none _)
  | (with_reducible refine LeO.ite ?_ ?_)
  | (with_reducible refine LeO.bind ?_ (fun _ => ?_))
  | exact ih0 _ _ _ _
  | exact LeO.none _
  | refine LeO.ite ?_ ?_
  | refine LeO.bind ?_ (fun _ => ?_)
set_option maxHeartbeats 8000000 in
set_option maxRecDepth 100000 in
theorem lockgateref04_URsh.calls (k : Nat) (a0_0 : Int) (a0_1 : Int) (a1 : Int) (r1 : Int) (r2 : Int) (w : World) (h : lockgateref04_URsh.f k a0_0 a0_1 a1 = some (r1, r2)) :
 Calls Try.prog 68 #[.agg #[.int .u64 a0_0, .int .u64 a0_1], .int .i64 a1] w fun e w' => e = .returned (.agg #[.int .u64 r1, .int .u64 r2]) ∧ Below w.heap.size w w' := by
 have hu26 := Try.underlying26
 have HB := Aside0.mk (Below.refl w.heap.size w)
 have H : (lockgateref04_URsh.l0 k a1 0 a0_0 a0_1) = some (r1, r2) := h
 clear h
 have H' := Aside0.mk H
 clear H
 go_enter Try.func68, Try.ntmps68
 go_wp2_with (first | ((with_reducible refine gate_dst (N := 2) rfl ?_); refine bx_ 2 #[.int .u64 a0_0, .int .u64 a0_1] 26 ?_; intro gb693 hg w3 BK693 hb; have GW693 := bg_ hg; have GE693 := GW693; replace HB := bl_ hb; clear hb hg) | ((with_reducible refine gate_dst (N := 4) rfl ?_); refine bx_ 4 #[.int .u64 0, .int .u64 0] 26 ?_; intro gb694 hg w4 BK694 hb; have GW694 := bg_ hg; have GE694 := GW694; have NB693_694 := bm_ hg BK693; have NB694_693 := bn_ hg BK693; replace BK693 := bb_ hb BK693; replace HB := bl_ hb; clear hb hg))
 go_loopg [5] k (fun kq v5 w' => ∃ (x5_1 : Int) (x694000_1 : Int) (x694001_1 : Int), v5 = .int .i64 x5_1 ∧ Aside0 (lockgateref04_URsh.l0 kq a1 x5_1 x694000_1 x694001_1 = some (r1, r2)) ∧ Aside0 (kq ≤ k) ∧ Aside0 (w'.heap[gb693]? = some (.cells #[.int .u64 x694000_1, .int .u64 x694001_1] 26 (0, 0))) ∧ Aside0 (w'.heap[gb694]? = some (.cells #[.int .u64 0, .int .u64 0] 26 (0, 0))) ∧ Aside0 (Below w.heap.size w w'))
 case atStart => exact ⟨(0), (a0_0), (a0_1), (by first | rfl | (simp; done) | (simp [*]; done)), H', ⟨Nat.le_refl _⟩, ⟨by exact bk_⟩, ⟨by exact bk_⟩, ⟨by repeat (first | (with_reducible first | exact HB.out | apply lA_ | apply lN_ | apply lD_ | refine lS_ ?_ GE693.out | refine lS_ ?_ GE694.out) | exact HB.out)⟩⟩
 case round =>
  clear H'
  try clear p2
  obtain ⟨x5_1, x694000_1, x694001_1, rfl, HA, HK1, BK693, BK694, HB⟩ := hrel
  cases gk with
  | zero => exact absurd HA.out (by simp [lockgateref04_URsh.l0])
  | succ k1 =>
   have H := HA.out
   clear HA
   simp only [lockgateref04_URsh.l0] at H
   replace H := Option.bind_eq_some_iff.mp H
   obtain ⟨t695, A50, H⟩ := H
   replace H : (if x5_1 < t695 then (lockgateref04_URsh.l0 k1 a1 (wrap64 (x5_1 + 1)) (IntKind.u64.wrap (Int.tdiv x694000_1 2)) (IntKind.u64.wrap (Int.tdiv x694001_1 2))) else (some (x694000_1, x694001_1))) = some (r1, r2) := H
   have A5 := Aside0.mk A50
   clear A50
   by_cases c6 : x5_1 < t695
   ·rw [if_pos c6] at H
    have c6b0 : decide (x5_1 < t695) = true := decide_eq_true c6
    clear c6
    have H' := Aside0.mk H
    clear H
    go_wp2_with (first | ((with_reducible refine gate_callee (f := 87) rfl ?_); refine goesL_ (some 8) rfl rfl Try.func87 (by kernel_rfl) rfl #[.int .i64 a1] rfl (by (try simp only [List.map_toArray, List.map_cons, List.map_nil]); first | done | rfl) ?_; (with_reducible refine (lockgateref04_round.calls a1 t695 _ A5.out).mono ?_); rintro e w' ⟨rfl, ⟨nd, rfl⟩⟩; refine ⟨_, rfl, ?_⟩; (try (rw [drewN_self wr]; generalize hq_ : World.drewN wr _ = wr; have n0_ : Aside0 (wr.heap[gb693]? = some (.cells #[.int .u64 x694000_1, .int .u64 x694001_1] 26 (0, 0))) := ⟨by rw [← hq_]; exact (by exact bk_)⟩; have n1_ : Aside0 (wr.heap[gb694]? = some (.cells #[.int .u64 0, .int .u64 0] 26 (0, 0))) := ⟨by rw [← hq_]; exact (by exact bk_)⟩; have n2_ : Aside0 (Below w.heap.size w wr) := ⟨by rw [← hq_]; exact (by repeat (first | (with_reducible first | exact HB.out | apply lA_ | apply lN_ | apply lD_ | refine lS_ ?_ GE693.out | refine lS_ ?_ GE694.out) | exact HB.out))⟩; clear BK693 BK694 HB hq_; have BK693 := n0_; have BK694 := n1_; have HB := n2_; clear n0_ n1_ n2_)); have hnb7 := NB693_694.out; have hnc7 := NB694_693.out; have hcz8_0 := c0_ BK693; have hcz8_1 := c1_ BK693; have hfz8_0 := fz_ BK693 0; have hfz8_1 := fz_ BK693 1))
    go_roundg k1
    case measure => have := HK1.out; omega
    case rel => exact ⟨(wrap64 (x5_1 + 1)), (IntKind.u64.wrap (Int.tdiv x694000_1 2)), (IntKind.u64.wrap (Int.tdiv x694001_1 2)), (by first | rfl | (simp; done) | (simp [*]; done)), H', ⟨by have := HK1.out; omega⟩, ⟨by (with_reducible repeat (first | apply bN_ | apply bD_ | apply bA_)); refine blk_put (cs := #[.int .u64 (IntKind.u64.wrap (Int.tdiv x694000_1 2)), .int .u64 x694001_1]) ?_ 1 _ rfl; (with_reducible repeat (first | apply bN_ | apply bD_ | apply bA_)); refine blk_put (cs := #[.int .u64 x694000_1, .int .u64 x694001_1]) ?_ 0 _ rfl; exact bk_⟩, ⟨by (with_reducible repeat (first | apply bN_ | apply bD_ | apply bA_)); refine blk_far ?_ NB694_693.out _; (with_reducible repeat (first | apply bN_ | apply bD_ | apply bA_)); refine blk_far ?_ NB694_693.out _; exact bk_⟩, ⟨by repeat (first | (with_reducible first | exact HB.out | apply lA_ | apply lN_ | apply lD_ | refine lS_ ?_ GE693.out | refine lS_ ?_ GE694.out) | exact HB.out)⟩⟩
   ·rw [if_neg c6] at H
    have c6b0 : decide (x5_1 < t695) = false := decide_eq_false c6
    clear c6
    simp only [Option.some.injEq, Prod.mk.injEq] at H
    obtain ⟨rfl, rfl⟩ := H
    go_wp2_with (first | ((with_reducible refine gate_callee (f := 87) rfl ?_); refine goesL_ (some 8) rfl rfl Try.func87 (by kernel_rfl) rfl #[.int .i64 a1] rfl (by (try simp only [List.map_toArray, List.map_cons, List.map_nil]); first | done | rfl) ?_; (with_reducible refine (lockgateref04_round.calls a1 t695 _ A5.out).mono ?_); rintro e w' ⟨rfl, ⟨nd, rfl⟩⟩; refine ⟨_, rfl, ?_⟩; (try (rw [drewN_self wr]; generalize hq_ : World.drewN wr _ = wr; have n0_ : Aside0 (wr.heap[gb693]? = some (.cells #[.int .u64 x694000_1, .int .u64 x694001_1] 26 (0, 0))) := ⟨by rw [← hq_]; exact (by exact bk_)⟩; have n1_ : Aside0 (wr.heap[gb694]? = some (.cells #[.int .u64 0, .int .u64 0] 26 (0, 0))) := ⟨by rw [← hq_]; exact (by exact bk_)⟩; have n2_ : Aside0 (Below w.heap.size w wr) := ⟨by rw [← hq_]; exact (by repeat (first | (with_reducible first | exact HB.out | apply lA_ | apply lN_ | apply lD_ | refine lS_ ?_ GE693.out | refine lS_ ?_ GE694.out) | exact HB.out))⟩; clear BK693 BK694 HB hq_; have BK693 := n0_; have BK694 := n1_; have HB := n2_; clear n0_ n1_ n2_)); have hnb9 := NB693_694.out; have hnc9 := NB694_693.out; have hcz10_0 := c0_ BK693; have hcz10_1 := c1_ BK693; have hfz10_0 := fz_ BK693 0; have hfz10_1 := fz_ BK693 1; have hcz11_0 := c0_ BK694; have hcz11_1 := c1_ BK694; have hfz11_0 := fz_ BK694 0; have hfz11_1 := fz_ BK694 1))
    refine bodyPost_ret (results_cell_row rfl _ _ gb694 26 #[.int .u64 x694000_1, .int .u64 x694001_1] (0, 0) _ rfl (by (with_reducible repeat (first | apply bN_ | apply bD_ | apply bA_)); refine blk_put (cs := #[.int .u64 x694000_1, .int .u64 0]) ?_ 1 _ rfl; (with_reducible repeat (first | apply bN_ | apply bD_ | apply bA_)); refine blk_put (cs := #[.int .u64 0, .int .u64 0]) ?_ 0 _ rfl; exact bk_) Try.underlying26 rfl (by kernel_rfl)) rfl ?_
    exact ⟨vv_, bz_⟩

end Go.Proofs.Ytnephcecobocdaa.PA
