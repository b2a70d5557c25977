-- PRINTED by print.py (a twelfth state) out of the translation. Not trusted: Lean checks it.
import Derived.Test.YtnephcecobocdaaPA0
import Derived.Test.YtnephcecobocdaaSq
import Derived.Test.YtnephcecobocdaaPA15
namespace Go.Proofs.Ytnephcecobocdaa.PA
open Go.RowKit Go.Proofs.YtnephcecobocdaaW.PrintWords Go.Proofs.YtnephcecobocdaaW.PrintLast Go.Proofs.YtnephcecobocdaaW.PrintMore
attribute [local go_sem] max2_int min2_int max_two min_two max_three min_three max_four min_four   -- for this text's walks alone
set_option linter.unusedVariables false
set_option linter.unusedSimpArgs false

/-! ### lockgateref04_ToU: function 37 -/
def lockgateref04_ToU.f (a0_0 : Int) (a0_1 : Int) : Option (Int × Int) := if a0_0 < 0 then (if a0_1 ≥ 0 then ((lockgateref04_UAll.f).bind fun bt430 => (some (bt430.1, bt430.2))) else (some (IntKind.u64.wrap (a0_0), IntKind.u64.wrap (a0_1)))) else (some (IntKind.u64.wrap (a0_0), IntKind.u64.wrap (a0_1)))
set_option maxHeartbeats 8000000 in
set_option maxRecDepth 100000 in
theorem lockgateref04_ToU.calls (a0_0 : Int) (a0_1 : Int) (r1 : Int) (r2 : Int) (w : World) (h : lockgateref04_ToU.f a0_0 a0_1 = some (r1, r2)) :
 Calls Try.prog 37 #[.agg #[.int .i64 a0_0, .int .i64 a0_1]] w fun e w' => e = .returned (.agg #[.int .u64 r1, .int .u64 r2]) ∧ Below w.heap.size w w' := by
 have hu28 := Try.underlying28
 have hu26 := Try.underlying26
 have HB := Aside0.mk (Below.refl w.heap.size w)
 have H : (if a0_0 < 0 then (if a0_1 ≥ 0 then ((lockgateref04_UAll.f).bind fun bt430 => (some (bt430.1, bt430.2))) else (some (IntKind.u64.wrap (a0_0), IntKind.u64.wrap (a0_1)))) else (some (IntKind.u64.wrap (a0_0), IntKind.u64.wrap (a0_1)))) = some (r1, r2) := h
 clear h
 by_cases c2 : a0_0 < 0
 ·rw [if_pos c2] at H
  have c2b0 : decide (a0_0 < 0) = true := decide_eq_true c2
  clear c2
  by_cases c3 : a0_1 ≥ 0
  ·rw [if_pos c3] at H
   have c3b0 : decide (0 ≤ a0_1) = true := decide_eq_true c3
   clear c3
   replace H := Option.bind_eq_some_iff.mp H
   obtain ⟨⟨t430, t431⟩, A40, H⟩ := H
   replace H : (some (t430, t431)) = some (r1, r2) := H
   have A4 := Aside0.mk A40
   clear A40
   simp only [Option.some.injEq, Prod.mk.injEq] at H
   obtain ⟨rfl, rfl⟩ := H
   go_enter Try.func37, Try.ntmps37
   go_wp2_with (first | ((with_reducible refine gate_dst (N := 1) rfl ?_); refine bx_ 1 #[.int .i64 a0_0, .int .i64 a0_1] 28 ?_; intro gb428 hg w5 BK428 hb; have GW428 := bg_ hg; have GE428 := GW428; replace HB := bl_ hb; clear hb hg) | ((with_reducible refine gate_dst (N := 2) rfl ?_); refine bx_ 2 #[.int .u64 0, .int .u64 0] 26 ?_; intro gb429 hg w6 BK429 hb; have GW429 := bg_ hg; have GE429 := GW429; have NB428_429 := bm_ hg BK428; have NB429_428 := bn_ hg BK428; replace BK428 := bb_ hb BK428; replace HB := bl_ hb; clear hb hg; have hnb7 := NB428_429.out; have hnc7 := NB429_428.out; have hcz8_0 := c0_ BK428; have hcz8_1 := c1_ BK428; have hfz8_0 := fz_ BK428 0; have hfz8_1 := fz_ BK428 1) | ((with_reducible refine gate_callee (f := 73) rfl ?_); refine goesL_ (some 11) rfl rfl Try.func73 (by kernel_rfl) rfl #[] rfl (by (try simp only [List.map_toArray, List.map_cons, List.map_nil]); first | done | rfl) ?_; (with_reducible refine (lockgateref04_UAll.calls  t430 t431 _ A4.out).mono ?_); rintro e w9 ⟨rfl, hb⟩; refine ⟨_, rfl, ?_⟩; replace BK428 := bb_ hb BK428; replace BK429 := bb_ hb BK429; replace HB := bl_ hb; (try clear hb); (try clear hb2); (try clear hk); (try clear hi); have hcz10_0 := c0_ BK429; have hcz10_1 := c1_ BK429; have hfz10_0 := fz_ BK429 0; have hfz10_1 := fz_ BK429 1))
   refine bodyPost_ret (results_cell_row rfl _ _ gb429 26 #[.int .u64 t430, .int .u64 t431] (0, 0) _ rfl (by (with_reducible repeat (first | apply bN_ | apply bD_ | apply bA_)); refine blk_put (cs := #[.int .u64 t430, .int .u64 0]) ?_ 1 _ rfl; (with_reducible repeat (first | apply bN_ | apply bD_ | apply bA_)); refine blk_put (cs := #[.int .u64 0, .int .u64 0]) ?_ 0 _ rfl; exact bk_) Try.underlying26 rfl (by kernel_rfl)) rfl ?_
   exact ⟨vv_, bz_⟩
  ·rw [if_neg c3] at H
   have c3b0 : decide (0 ≤ a0_1) = false := decide_eq_false c3
   clear c3
   simp only [Option.some.injEq, Prod.mk.injEq] at H
   obtain ⟨rfl, rfl⟩ := H
   go_enter Try.func37, Try.ntmps37
   go_wp2_with (first | ((with_reducible refine gate_dst (N := 1) rfl ?_); refine bx_ 1 #[.int .i64 a0_0, .int .i64 a0_1] 28 ?_; intro gb428 hg w11 BK428 hb; have GW428 := bg_ hg; have GE428 := GW428; replace HB := bl_ hb; clear hb hg) | ((with_reducible refine gate_dst (N := 2) rfl ?_); refine bx_ 2 #[.int .u64 0, .int .u64 0] 26 ?_; intro gb429 hg w12 BK429 hb; have GW429 := bg_ hg; have GE429 := GW429; have NB428_429 := bm_ hg BK428; have NB429_428 := bn_ hg BK428; replace BK428 := bb_ hb BK428; replace HB := bl_ hb; clear hb hg; have hnb13 := NB428_429.out; have hnc13 := NB429_428.out; have hcz14_0 := c0_ BK428; have hcz14_1 := c1_ BK428; have hfz14_0 := fz_ BK428 0; have hfz14_1 := fz_ BK428 1; have hcz15_0 := c0_ BK429; have hcz15_1 := c1_ BK429; have hfz15_0 := fz_ BK429 0; have hfz15_1 := fz_ BK429 1))
   refine bodyPost_ret (results_cell_row rfl _ _ gb429 26 #[.int .u64 (IntKind.u64.wrap (a0_0)), .int .u64 (IntKind.u64.wrap (a0_1))] (0, 0) _ rfl (by (with_reducible repeat (first | apply bN_ | apply bD_ | apply bA_)); refine blk_put (cs := #[.int .u64 (IntKind.u64.wrap (a0_0)), .int .u64 0]) ?_ 1 _ rfl; (with_reducible repeat (first | apply bN_ | apply bD_ | apply bA_)); refine blk_put (cs := #[.int .u64 0, .int .u64 0]) ?_ 0 _ rfl; exact bk_) Try.underlying26 rfl (by kernel_rfl)) rfl ?_
   exact ⟨vv_, bz_⟩
 ·rw [if_neg c2] at H
  have c2b0 : decide (a0_0 < 0) = false := decide_eq_false c2
  clear c2
  simp only [Option.some.injEq, Prod.mk.injEq] at H
  obtain ⟨rfl, rfl⟩ := H
  go_enter Try.func37, Try.ntmps37
  go_wp2_with (first | ((with_reducible refine gate_dst (N := 1) rfl ?_); refine bx_ 1 #[.int .i64 a0_0, .int .i64 a0_1] 28 ?_; intro gb428 hg w16 BK428 hb; have GW428 := bg_ hg; have GE428 := GW428; replace HB := bl_ hb; clear hb hg) | ((with_reducible refine gate_dst (N := 2) rfl ?_); refine bx_ 2 #[.int .u64 0, .int .u64 0] 26 ?_; intro gb429 hg w17 BK429 hb; have GW429 := bg_ hg; have GE429 := GW429; have NB428_429 := bm_ hg BK428; have NB429_428 := bn_ hg BK428; replace BK428 := bb_ hb BK428; replace HB := bl_ hb; clear hb hg; have hnb18 := NB428_429.out; have hnc18 := NB429_428.out; have hcz19_0 := c0_ BK428; have hcz19_1 := c1_ BK428; have hfz19_0 := fz_ BK428 0; have hfz19_1 := fz_ BK428 1; have hcz20_0 := c0_ BK429; have hcz20_1 := c1_ BK429; have hfz20_0 := fz_ BK429 0; have hfz20_1 := fz_ BK429 1))
  refine bodyPost_ret (results_cell_row rfl _ _ gb429 26 #[.int .u64 (IntKind.u64.wrap (a0_0)), .int .u64 (IntKind.u64.wrap (a0_1))] (0, 0) _ rfl (by (with_reducible repeat (first | apply bN_ | apply bD_ | apply bA_)); refine blk_put (cs := #[.int .u64 (IntKind.u64.wrap (a0_0)), .int .u64 0]) ?_ 1 _ rfl; (with_reducible repeat (first | apply bN_ | apply bD_ | apply bA_)); refine blk_put (cs := #[.int .u64 0, .int .u64 0]) ?_ 0 _ rfl; exact bk_) Try.underlying26 rfl (by kernel_rfl)) rfl ?_
  exact ⟨vv_, bz_⟩

/-! ### lockgateref04_SOf: function 41 -/
def lockgateref04_SOf.f (a0 : Int) : Option (Int × Int) := some (wrap64 (a0), wrap64 (a0))
set_option maxHeartbeats 8000000 in
set_option maxRecDepth 100000 in
theorem lockgateref04_SOf.calls (a0 : Int) (r1 : Int) (r2 : Int) (w : World) (h : lockgateref04_SOf.f a0 = some (r1, r2)) :
 Calls Try.prog 41 #[.int .u64 a0] w fun e w' => e = .returned (.agg #[.int .i64 r1, .int .i64 r2]) ∧ Below w.heap.size w w' := by
 have hu28 := Try.underlying28
 have HB := Aside0.mk (Below.refl w.heap.size w)
 have H : (some (wrap64 (a0), wrap64 (a0))) = some (r1, r2) := h
 clear h
 simp only [Option.some.injEq, Prod.mk.injEq] at H
 obtain ⟨rfl, rfl⟩ := H
 go_enter Try.func41, Try.ntmps41
 go_wp2_with (first | ((with_reducible refine gate_dst (N := 2) rfl ?_); refine bx_ 2 #[.int .i64 0, .int .i64 0] 28 ?_; intro gb433 hg w2 BK433 hb; have GW433 := bg_ hg; have GE433 := GW433; replace HB := bl_ hb; clear hb hg; have hcz3_0 := c0_ BK433; have hcz3_1 := c1_ BK433; have hfz3_0 := fz_ BK433 0; have hfz3_1 := fz_ BK433 1))
 refine bodyPost_ret (results_cell_row rfl _ _ gb433 28 #[.int .i64 (wrap64 (a0)), .int .i64 (wrap64 (a0))] (0, 0) _ rfl (by (with_reducible repeat (first | apply bN_ | apply bD_ | apply bA_)); refine blk_put (cs := #[.int .i64 (wrap64 (a0)), .int .i64 0]) ?_ 1 _ rfl; (with_reducible repeat (first | apply bN_ | apply bD_ | apply bA_)); refine blk_put (cs := #[.int .i64 0, .int .i64 0]) ?_ 0 _ rfl; exact bk_) Try.underlying28 rfl (by kernel_rfl)) rfl ?_
 exact ⟨vv_, bz_⟩

/-! ### lockgateref04_UMeet: function 56 -/
def lockgateref04_UMeet.j0 : Nat → Int → Int → Int → Int → Option (Int × Int × Bool)
 | 0, _, _, _, _ => none
 | k + 1, x627000, x627001, x628000, x628001 => if x628001 < x627001 then (if x627000 > x628001 then (some (0, 0, false)) else (some (x627000, x628001, true))) else (if x627000 > x627001 then (some (0, 0, false)) else (some (x627000, x627001, true)))
def lockgateref04_UMeet.f (k : Nat) (a0_0 : Int) (a0_1 : Int) (a1_0 : Int) (a1_1 : Int) : Option (Int × Int × Bool) := if a1_0 > a0_0 then (lockgateref04_UMeet.j0 k a1_0 a0_1 a1_0 a1_1) else (lockgateref04_UMeet.j0 k a0_0 a0_1 a1_0 a1_1)
theorem lockgateref04_UMeet.mono_l : ∀ k, (∀ y0 y1 y2 y3, LeO (lockgateref04_UMeet.j0 k y0 y1 y2 y3) (lockgateref04_UMeet.j0 (k + 1) y0 y1 y2 y3))
 | 0 => fun _ _ _ _ r h => by simp [lockgateref04_UMeet.j0] at h
 | k + 1 => by
  have ih0 := lockgateref04_UMeet.mono_l k
  ·intro y0 y1 y2 y3
   unfold lockgateref04_UMeet.j0
   repeat' first
   | (with_reducible exact ih0 _ _ _ _)
   | (with_reducible exact LeO.refl _)
   | (with_reducible exact LeO.none _)
   | (with_reducible refine LeO.ite ?_ ?_)
   | (with_reducible refine LeO.bind ?_ (fun _ => ?_))
   | exact ih0 _ _ _ _
   | exact LeO.none _
   | refine LeO.ite ?_ ?_
   | refine LeO.bind ?_ (fun _ => ?_)
theorem lockgateref04_UMeet.mono : ∀ a0 a1 a2 a3 k, LeO (lockgateref04_UMeet.f k a0 a1 a2 a3) (lockgateref04_UMeet.f (k + 1) a0 a1 a2 a3) := by
 intro a0 a1 a2 a3 k
 have ih0 := lockgateref04_UMeet.mono_l k
 unfold lockgateref04_UMeet.f
 repeat' first
  | (with_reducible exact ih0 _ _ _ _)
  | (with_reducible exact LeO.refl _)
  | (with_reducible exact LeO.none _)
  | (with_reducible refine LeO.ite ?_ ?_)
  | (with_reducible refine LeO.bind ?_ (fun _ => ?_))
  | exact ih0 _ _ _ _
  | exact LeO.none _
  | refine LeO.ite ?_ ?_
  | refine LeO.bind ?_ (fun _ => ?_)
set_option maxHeartbeats 8000000 in
set_option maxRecDepth 100000 in
theorem lockgateref04_UMeet.calls (k : Nat) (a0_0 : Int) (a0_1 : Int) (a1_0 : Int) (a1_1 : Int) (r1 : Int) (r2 : Int) (r3 : Bool) (w : World) (h : lockgateref04_UMeet.f k a0_0 a0_1 a1_0 a1_1 = some (r1, r2, r3)) :
 Calls Try.prog 56 #[.agg #[.int .u64 a0_0, .int .u64 a0_1], .agg #[.int .u64 a1_0, .int .u64 a1_1]] w fun e w' => e = .returned (.tuple #[.agg #[.int .u64 r1, .int .u64 r2], .bool r3]) ∧ Below w.heap.size w w' := by
 have hu26 := Try.underlying26
 have HB := Aside0.mk (Below.refl w.heap.size w)
 have H : (if a1_0 > a0_0 then (lockgateref04_UMeet.j0 k a1_0 a0_1 a1_0 a1_1) else (lockgateref04_UMeet.j0 k a0_0 a0_1 a1_0 a1_1)) = some (r1, r2, r3) := h
 clear h
 have HC3 := Aside0.mk H
 clear H
 go_enter Try.func56, Try.ntmps56
 go_upto_if 10 with (first | ((with_reducible refine gate_dst (N := 2) rfl ?_); refine bx_ 2 #[.int .u64 a0_0, .int .u64 a0_1] 26 ?_; intro gb626 hg w4 BK626 hb; have GW626 := bg_ hg; have GE626 := GW626; replace HB := bl_ hb; clear hb hg) | ((with_reducible refine gate_dst (N := 3) rfl ?_); refine bx_ 3 #[.int .u64 a1_0, .int .u64 a1_1] 26 ?_; intro gb627 hg w5 BK627 hb; have GW627 := bg_ hg; have GE627 := GW627; have NB626_627 := bm_ hg BK626; have NB627_626 := bn_ hg BK626; replace BK626 := bb_ hb BK626; replace HB := bl_ hb; clear hb hg) | ((with_reducible refine gate_dst (N := 4) rfl ?_); refine bx_ 4 #[.int .u64 0, .int .u64 0] 26 ?_; intro gb628 hg w6 BK628 hb; have GW628 := bg_ hg; have GE628 := GW628; have NB626_628 := bm_ hg BK626; have NB628_626 := bn_ hg BK626; have NB627_628 := bm_ hg BK627; have NB628_627 := bn_ hg BK627; replace BK626 := bb_ hb BK626; replace BK627 := bb_ hb BK627; replace HB := bl_ hb; clear hb hg; have hnb7 := NB627_626.out; have hnc7 := NB626_627.out; have hnb8 := NB627_628.out; have hnc8 := NB628_627.out; have hcz9_0 := c0_ BK627; have hcz9_1 := c1_ BK627; have hfz9_0 := fz_ BK627 0; have hfz9_1 := fz_ BK627 1; have hnb10 := NB626_628.out; have hnc10 := NB628_626.out; have hcz11_0 := c0_ BK626; have hcz11_1 := c1_ BK626; have hfz11_0 := fz_ BK626 0; have hfz11_1 := fz_ BK626 1))
 (try simp only [Act.put, s1_, s2_, s3_])
 go_cut [] (fun wc => ∃ (kq : Nat) (x627000_2 : Int), Aside0 (lockgateref04_UMeet.j0 kq x627000_2 a0_1 a1_0 a1_1 = some (r1, r2, r3)) ∧ Aside0 (kq ≤ k) ∧ Aside0 (wc.heap[gb626]? = some (.cells #[.int .u64 x627000_2, .int .u64 a0_1] 26 (0, 0))) ∧ Aside0 (wc.heap[gb627]? = some (.cells #[.int .u64 a1_0, .int .u64 a1_1] 26 (0, 0))) ∧ Aside0 (wc.heap[gb628]? = some (.cells #[.int .u64 0, .int .u64 0] 26 (0, 0))) ∧ Aside0 (Below w.heap.size w wc))
 case first =>
  have H := HC3.out
  clear HC3
  by_cases c12 : a1_0 > a0_0
  ·rw [if_pos c12] at H
   have c12b0 : decide (a0_0 < a1_0) = true := decide_eq_true c12
   clear c12
   (first | rw [c12b0] | (simp only [i64_w, i32_w]; rw [c12b0]) | skip)
   have H' := Aside0.mk H
   clear H
   have hnb13 := NB627_626.out
   have hnc13 := NB626_627.out
   have hnb14 := NB627_628.out
   have hnc14 := NB628_627.out
   have hcz15_0 := c0_ BK627
   have hcz15_1 := c1_ BK627
   have hfz15_0 := fz_ BK627 0
   have hfz15_1 := fz_ BK627 1
   have hnb16 := NB626_628.out
   have hnc16 := NB628_626.out
   have hcz17_0 := c0_ BK626
   have hcz17_1 := c1_ BK626
   have hfz17_0 := fz_ BK626 0
   have hfz17_1 := fz_ BK626 1
   go_wp2
   go_meet
   case rel => exact ⟨_, (a1_0), H', ⟨by first | omega | exact Nat.le_refl _⟩, ⟨by (with_reducible repeat (first | apply bN_ | apply bD_ | apply bA_)); refine blk_put (cs := #[.int .u64 a0_0, .int .u64 a0_1]) ?_ 0 _ rfl; exact bk_⟩, ⟨by (with_reducible repeat (first | apply bN_ | apply bD_ | apply bA_)); refine blk_far ?_ NB627_626.out _; exact bk_⟩, ⟨by (with_reducible repeat (first | apply bN_ | apply bD_ | apply bA_)); refine blk_far ?_ NB628_626.out _; exact bk_⟩, ⟨by repeat (first | (with_reducible first | exact HB.out | apply lA_ | apply lN_ | apply lD_ | refine lS_ ?_ GE626.out | refine lS_ ?_ GE627.out | refine lS_ ?_ GE628.out) | exact HB.out)⟩⟩
  ·rw [if_neg c12] at H
   have c12b0 : decide (a0_0 < a1_0) = false := decide_eq_false c12
   clear c12
   (first | rw [c12b0] | (simp only [i64_w, i32_w]; rw [c12b0]) | skip)
   have H' := Aside0.mk H
   clear H
   go_wp2
   go_meet
   case rel => exact ⟨_, (a0_0), H', ⟨by first | omega | exact Nat.le_refl _⟩, ⟨by exact bk_⟩, ⟨by exact bk_⟩, ⟨by exact bk_⟩, ⟨by repeat (first | (with_reducible first | exact HB.out | apply lA_ | apply lN_ | apply lD_ | refine lS_ ?_ GE626.out | refine lS_ ?_ GE627.out | refine lS_ ?_ GE628.out) | exact HB.out)⟩⟩
 case rest =>
  clear HC3
  try clear c1
  try clear p2
  try clear c5
  try clear c7
  try clear c8
  try clear c10
  try clear c12
  try clear c12b0
  try clear c13
  try clear c14
  try clear c16
  try clear hcz11_0
  try clear hcz11_1
  try clear hcz15_0
  try clear hcz15_1
  try clear hcz17_0
  try clear hcz17_1
  try clear hcz9_0
  try clear hcz9_1
  try clear hfz11_0
  try clear hfz11_1
  try clear hfz15_0
  try clear hfz15_1
  try clear hfz17_0
  try clear hfz17_1
  try clear hfz9_0
  try clear hfz9_1
  obtain ⟨kq, x627000_2, HA, HJ2, BK626, BK627, BK628, HB⟩ := hcut
  cases kq with
  | zero => exact absurd HA.out (by simp [lockgateref04_UMeet.j0])
  | succ kj2 =>
   have H := HA.out
   clear HA
   simp only [lockgateref04_UMeet.j0] at H
   by_cases c18 : a1_1 < a0_1
   ·rw [if_pos c18] at H
    have c18b0 : decide (a1_1 < a0_1) = true := decide_eq_true c18
    clear c18
    by_cases c19 : x627000_2 > a1_1
    ·rw [if_pos c19] at H
     have c19b0 : decide (a1_1 < x627000_2) = true := decide_eq_true c19
     clear c19
     simp only [Option.some.injEq, Prod.mk.injEq] at H
     obtain ⟨rfl, rfl, rfl⟩ := H
     have hnb20 := NB627_626.out
     have hnc20 := NB626_627.out
     have hnb21 := NB627_628.out
     have hnc21 := NB628_627.out
     have hcz22_0 := c0_ BK627
     have hcz22_1 := c1_ BK627
     have hfz22_0 := fz_ BK627 0
     have hfz22_1 := fz_ BK627 1
     have hnb23 := NB626_628.out
     have hnc23 := NB628_626.out
     have hcz24_0 := c0_ BK626
     have hcz24_1 := c1_ BK626
     have hfz24_0 := fz_ BK626 0
     have hfz24_1 := fz_ BK626 1
     have hcz25_0 := c0_ BK628
     have hcz25_1 := c1_ BK628
     have hfz25_0 := fz_ BK628 0
     have hfz25_1 := fz_ BK628 1
     go_wp2
     refine bodyPost_ret (results_ct rfl _ _ gb628 26 #[.int .u64 0, .int .u64 0] (0, 0) _ rfl (by (with_reducible repeat (first | apply bN_ | apply bD_ | apply bA_)); refine blk_put (cs := #[.int .u64 0, .int .u64 0]) ?_ 1 _ rfl; (with_reducible repeat (first | apply bN_ | apply bD_ | apply bA_)); refine blk_put (cs := #[.int .u64 0, .int .u64 0]) ?_ 0 _ rfl; (with_reducible repeat (first | apply bN_ | apply bD_ | apply bA_)); refine blk_far ?_ NB628_626.out _; exact bk_) Try.underlying26 rfl (by kernel_rfl)) rfl ?_
     exact ⟨vv_, bz_⟩
    ·rw [if_neg c19] at H
     have c19b0 : decide (a1_1 < x627000_2) = false := decide_eq_false c19
     clear c19
     simp only [Option.some.injEq, Prod.mk.injEq] at H
     obtain ⟨rfl, rfl, rfl⟩ := H
     have hnb26 := NB627_626.out
     have hnc26 := NB626_627.out
     have hnb27 := NB627_628.out
     have hnc27 := NB628_627.out
     have hcz28_0 := c0_ BK627
     have hcz28_1 := c1_ BK627
     have hfz28_0 := fz_ BK627 0
     have hfz28_1 := fz_ BK627 1
     have hnb29 := NB626_628.out
     have hnc29 := NB628_626.out
     have hcz30_0 := c0_ BK626
     have hcz30_1 := c1_ BK626
     have hfz30_0 := fz_ BK626 0
     have hfz30_1 := fz_ BK626 1
     have hcz31_0 := c0_ BK628
     have hcz31_1 := c1_ BK628
     have hfz31_0 := fz_ BK628 0
     have hfz31_1 := fz_ BK628 1
     go_wp2
     refine bodyPost_ret (results_ct rfl _ _ gb628 26 #[.int .u64 x627000_2, .int .u64 a1_1] (0, 0) _ rfl (by (with_reducible repeat (first | apply bN_ | apply bD_ | apply bA_)); refine blk_put (cs := #[.int .u64 x627000_2, .int .u64 0]) ?_ 1 _ rfl; (with_reducible repeat (first | apply bN_ | apply bD_ | apply bA_)); refine blk_put (cs := #[.int .u64 0, .int .u64 0]) ?_ 0 _ rfl; (with_reducible repeat (first | apply bN_ | apply bD_ | apply bA_)); refine blk_far ?_ NB628_626.out _; exact bk_) Try.underlying26 rfl (by kernel_rfl)) rfl ?_
     exact ⟨vv_, bz_⟩
   ·rw [if_neg c18] at H
    have c18b0 : decide (a1_1 < a0_1) = false := decide_eq_false c18
    clear c18
    by_cases c32 : x627000_2 > a0_1
    ·rw [if_pos c32] at H
     have c32b0 : decide (a0_1 < x627000_2) = true := decide_eq_true c32
     clear c32
     simp only [Option.some.injEq, Prod.mk.injEq] at H
     obtain ⟨rfl, rfl, rfl⟩ := H
     have hnb33 := NB627_626.out
     have hnc33 := NB626_627.out
     have hnb34 := NB627_628.out
     have hnc34 := NB628_627.out
     have hcz35_0 := c0_ BK627
     have hcz35_1 := c1_ BK627
     have hfz35_0 := fz_ BK627 0
     have hfz35_1 := fz_ BK627 1
     have hnb36 := NB626_628.out
     have hnc36 := NB628_626.out
     have hcz37_0 := c0_ BK626
     have hcz37_1 := c1_ BK626
     have hfz37_0 := fz_ BK626 0
     have hfz37_1 := fz_ BK626 1
     have hcz38_0 := c0_ BK628
     have hcz38_1 := c1_ BK628
     have hfz38_0 := fz_ BK628 0
     have hfz38_1 := fz_ BK628 1
     go_wp2
     refine bodyPost_ret (results_ct rfl _ _ gb628 26 #[.int .u64 0, .int .u64 0] (0, 0) _ rfl (by (with_reducible repeat (first | apply bN_ | apply bD_ | apply bA_)); refine blk_put (cs := #[.int .u64 0, .int .u64 0]) ?_ 1 _ rfl; (with_reducible repeat (first | apply bN_ | apply bD_ | apply bA_)); refine blk_put (cs := #[.int .u64 0, .int .u64 0]) ?_ 0 _ rfl; exact bk_) Try.underlying26 rfl (by kernel_rfl)) rfl ?_
     exact ⟨vv_, bz_⟩
    ·rw [if_neg c32] at H
     have c32b0 : decide (a0_1 < x627000_2) = false := decide_eq_false c32
     clear c32
     simp only [Option.some.injEq, Prod.mk.injEq] at H
     obtain ⟨rfl, rfl, rfl⟩ := H
     have hnb39 := NB627_626.out
     have hnc39 := NB626_627.out
     have hnb40 := NB627_628.out
     have hnc40 := NB628_627.out
     have hcz41_0 := c0_ BK627
     have hcz41_1 := c1_ BK627
     have hfz41_0 := fz_ BK627 0
     have hfz41_1 := fz_ BK627 1
     have hnb42 := NB626_628.out
     have hnc42 := NB628_626.out
     have hcz43_0 := c0_ BK626
     have hcz43_1 := c1_ BK626
     have hfz43_0 := fz_ BK626 0
     have hfz43_1 := fz_ BK626 1
     have hcz44_0 := c0_ BK628
     have hcz44_1 := c1_ BK628
     have hfz44_0 := fz_ BK628 0
     have hfz44_1 := fz_ BK628 1
     go_wp2
     refine bodyPost_ret (results_ct rfl _ _ gb628 26 #[.int .u64 x627000_2, .int .u64 a0_1] (0, 0) _ rfl (by (with_reducible repeat (first | apply bN_ | apply bD_ | apply bA_)); refine blk_put (cs := #[.int .u64 x627000_2, .int .u64 0]) ?_ 1 _ rfl; (with_reducible repeat (first | apply bN_ | apply bD_ | apply bA_)); refine blk_put (cs := #[.int .u64 0, .int .u64 0]) ?_ 0 _ rfl; exact bk_) Try.underlying26 rfl (by kernel_rfl)) rfl ?_
     exact ⟨vv_, bz_⟩

/-! ### lockgateref04_UIn: function 57 -/
def lockgateref04_UIn.f (a0_0 : Int) (a0_1 : Int) (a1 : Int) : Option (Bool) := if a1 ≥ a0_0 then (some (decide (a1 ≤ a0_1))) else (some false)
set_option maxHeartbeats 8000000 in
set_option maxRecDepth 100000 in
theorem lockgateref04_UIn.calls (a0_0 : Int) (a0_1 : Int) (a1 : Int) (r : Bool) (w : World) (h : lockgateref04_UIn.f a0_0 a0_1 a1 = some r) :
 Calls Try.prog 57 #[.agg #[.int .u64 a0_0, .int .u64 a0_1], .int .u64 a1] w fun e w' => e = .returned (.bool r) ∧ Below w.heap.size w w' := by
 have hu26 := Try.underlying26
 have HB := Aside0.mk (Below.refl w.heap.size w)
 have H : (if a1 ≥ a0_0 then (some (decide (a1 ≤ a0_1))) else (some false)) = some r := h
 clear h
 by_cases c3 : a1 ≥ a0_0
 ·rw [if_pos c3] at H
  have c3b0 : decide (a0_0 ≤ a1) = true := decide_eq_true c3
  clear c3
  obtain rfl := Option.some.inj H
  go_enter Try.func57, Try.ntmps57
  go_wp2_with (first | ((with_reducible refine gate_dst (N := 2) rfl ?_); refine bx_ 2 #[.int .u64 a0_0, .int .u64 a0_1] 26 ?_; intro gb629 hg w4 BK629 hb; have GW629 := bg_ hg; have GE629 := GW629; replace HB := bl_ hb; clear hb hg; have hcz5_0 := c0_ BK629; have hcz5_1 := c1_ BK629; have hfz5_0 := fz_ BK629 0; have hfz5_1 := fz_ BK629 1))
  go_ret
  exact ⟨vv_, bz_⟩
 ·rw [if_neg c3] at H
  have c3b0 : decide (a0_0 ≤ a1) = false := decide_eq_false c3
  clear c3
  obtain rfl := Option.some.inj H
  go_enter Try.func57, Try.ntmps57
  go_wp2_with (first | ((with_reducible refine gate_dst (N := 2) rfl ?_); refine bx_ 2 #[.int .u64 a0_0, .int .u64 a0_1] 26 ?_; intro gb629 hg w6 BK629 hb; have GW629 := bg_ hg; have GE629 := GW629; replace HB := bl_ hb; clear hb hg; have hcz7_0 := c0_ BK629; have hcz7_1 := c1_ BK629; have hfz7_0 := fz_ BK629 0; have hfz7_1 := fz_ BK629 1))
  go_ret
  exact ⟨vv_, bz_⟩

/-! ### lockgateref04_UWithin: function 58 -/
def lockgateref04_UWithin.f (a0_0 : Int) (a0_1 : Int) (a1_0 : Int) (a1_1 : Int) : Option (Bool) := (lockgateref04_UIn.f a1_0 a1_1 a0_0).bind fun t632 => (if t632 = true then ((lockgateref04_UIn.f a1_0 a1_1 a0_1).bind fun t633 => (some t633)) else (some false))
set_option maxHeartbeats 8000000 in
set_option maxRecDepth 100000 in
theorem lockgateref04_UWithin.calls (a0_0 : Int) (a0_1 : Int) (a1_0 : Int) (a1_1 : Int) (r : Bool) (w : World) (h : lockgateref04_UWithin.f a0_0 a0_1 a1_0 a1_1 = some r) :
 Calls Try.prog 58 #[.agg #[.int .u64 a0_0, .int .u64 a0_1], .agg #[.int .u64 a1_0, .int .u64 a1_1]] w fun e w' => e = .returned (.bool r) ∧ Below w.heap.size w w' := by
 have hu26 := Try.underlying26
 have HB := Aside0.mk (Below.refl w.heap.size w)
 have H : ((lockgateref04_UIn.f a1_0 a1_1 a0_0).bind fun t632 => (if t632 = true then ((lockgateref04_UIn.f a1_0 a1_1 a0_1).bind fun t633 => (some t633)) else (some false))) = some r := h
 clear h
 replace H := Option.bind_eq_some_iff.mp H
 obtain ⟨t632, A30, H⟩ := H
 replace H : (if t632 = true then ((lockgateref04_UIn.f a1_0 a1_1 a0_1).bind fun t633 => (some t633)) else (some false)) = some r := H
 have A3 := Aside0.mk A30
 clear A30
 by_cases c4 : t632 = true
 ·subst c4
  have H1 : ((lockgateref04_UIn.f a1_0 a1_1 a0_1).bind fun t633 => (some t633)) = some r := by rw [if_pos rfl] at H; exact H
  clear H
  have H := H1
  clear H1
  replace H := Option.bind_eq_some_iff.mp H
  obtain ⟨t633, A50, H⟩ := H
  replace H : (some t633) = some r := H
  have A5 := Aside0.mk A50
  clear A50
  obtain rfl := Option.some.inj H
  go_enter Try.func58, Try.ntmps58
  go_wp2_with (first | ((with_reducible refine gate_dst (N := 2) rfl ?_); refine bx_ 2 #[.int .u64 a0_0, .int .u64 a0_1] 26 ?_; intro gb630 hg w6 BK630 hb; have GW630 := bg_ hg; have GE630 := GW630; replace HB := bl_ hb; clear hb hg) | ((with_reducible refine gate_dst (N := 3) rfl ?_); refine bx_ 3 #[.int .u64 a1_0, .int .u64 a1_1] 26 ?_; intro gb631 hg w7 BK631 hb; have GW631 := bg_ hg; have GE631 := GW631; have NB630_631 := bm_ hg BK630; have NB631_630 := bn_ hg BK630; replace BK630 := bb_ hb BK630; replace HB := bl_ hb; clear hb hg; have hnb8 := NB631_630.out; have hnc8 := NB630_631.out; have hcz9_0 := c0_ BK631; have hcz9_1 := c1_ BK631; have hfz9_0 := fz_ BK631 0; have hfz9_1 := fz_ BK631 1; have hcz10_0 := c0_ BK630; have hcz10_1 := c1_ BK630; have hfz10_0 := fz_ BK630 0; have hfz10_1 := fz_ BK630 1) | ((with_reducible refine gate_callee (f := 57) rfl ?_); refine goesL_ (some 8) rfl rfl Try.func57 (by kernel_rfl) rfl #[.agg #[.int .u64 a1_0, .int .u64 a1_1], .int .u64 a0_0] rfl (by (try simp only [List.map_toArray, List.map_cons, List.map_nil]); first | done | rfl) ?_; (with_reducible refine (lockgateref04_UIn.calls a1_0 a1_1 a0_0 true _ A3.out).mono ?_); rintro e w11 ⟨rfl, hb⟩; refine ⟨_, rfl, ?_⟩; replace BK630 := bb_ hb BK630; replace BK631 := bb_ hb BK631; replace HB := bl_ hb; (try clear hb); (try clear hb2); (try clear hk); (try clear hi); have hcz12_0 := c0_ BK631; have hcz12_1 := c1_ BK631; have hfz12_0 := fz_ BK631 0; have hfz12_1 := fz_ BK631 1; have hcz13_0 := c0_ BK630; have hcz13_1 := c1_ BK630; have hfz13_0 := fz_ BK630 0; have hfz13_1 := fz_ BK630 1) | (go_at_call 57; (with_reducible refine (lockgateref04_UIn.calls a1_0 a1_1 a0_1 t633 _ A5.out).mono ?_); rintro e w14 ⟨rfl, hb⟩; replace BK630 := bb_ hb BK630; replace BK631 := bb_ hb BK631; replace HB := bl_ hb; (try clear hb); (try clear hb2); (try clear hk); (try clear hi)))
  go_ret
  exact ⟨vv_, bz_⟩
 ·replace c4 := Bool.eq_false_iff.mpr c4
  subst c4
  have H1 : (some false) = some r := by rw [if_neg (show ¬ (false = true) by decide)] at H; exact H
  clear H
  have H := H1
  clear H1
  obtain rfl := Option.some.inj H
  go_enter Try.func58, Try.ntmps58
  go_wp2_with (first | ((with_reducible refine gate_dst (N := 2) rfl ?_); refine bx_ 2 #[.int .u64 a0_0, .int .u64 a0_1] 26 ?_; intro gb630 hg w15 BK630 hb; have GW630 := bg_ hg; have GE630 := GW630; replace HB := bl_ hb; clear hb hg) | ((with_reducible refine gate_dst (N := 3) rfl ?_); refine bx_ 3 #[.int .u64 a1_0, .int .u64 a1_1] 26 ?_; intro gb631 hg w16 BK631 hb; have GW631 := bg_ hg; have GE631 := GW631; have NB630_631 := bm_ hg BK630; have NB631_630 := bn_ hg BK630; replace BK630 := bb_ hb BK630; replace HB := bl_ hb; clear hb hg; have hnb17 := NB631_630.out; have hnc17 := NB630_631.out; have hcz18_0 := c0_ BK631; have hcz18_1 := c1_ BK631; have hfz18_0 := fz_ BK631 0; have hfz18_1 := fz_ BK631 1; have hcz19_0 := c0_ BK630; have hcz19_1 := c1_ BK630; have hfz19_0 := fz_ BK630 0; have hfz19_1 := fz_ BK630 1) | ((with_reducible refine gate_callee (f := 57) rfl ?_); refine goesL_ (some 8) rfl rfl Try.func57 (by kernel_rfl) rfl #[.agg #[.int .u64 a1_0, .int .u64 a1_1], .int .u64 a0_0] rfl (by (try simp only [List.map_toArray, List.map_cons, List.map_nil]); first | done | rfl) ?_; (with_reducible refine (lockgateref04_UIn.calls a1_0 a1_1 a0_0 false _ A3.out).mono ?_); rintro e w20 ⟨rfl, hb⟩; refine ⟨_, rfl, ?_⟩; replace BK630 := bb_ hb BK630; replace BK631 := bb_ hb BK631; replace HB := bl_ hb; (try clear hb); (try clear hb2); (try clear hk); (try clear hi)))
  go_ret
  exact ⟨vv_, bz_⟩

/-! ### lockgateref04_UJoin: function 59 -/
def lockgateref04_UJoin.f (a0_0 : Int) (a0_1 : Int) (a1_0 : Int) (a1_1 : Int) : Option (Int × Int) := if a1_0 < a0_0 then (if a1_1 > a0_1 then (some (a1_0, a1_1)) else (some (a1_0, a0_1))) else (if a1_1 > a0_1 then (some (a0_0, a1_1)) else (some (a0_0, a0_1)))
set_option maxHeartbeats 8000000 in
set_option maxRecDepth 100000 in
theorem lockgateref04_UJoin.calls (a0_0 : Int) (a0_1 : Int) (a1_0 : Int) (a1_1 : Int) (r1 : Int) (r2 : Int) (w : World) (h : lockgateref04_UJoin.f a0_0 a0_1 a1_0 a1_1 = some (r1, r2)) :
 Calls Try.prog 59 #[.agg #[.int .u64 a0_0, .int .u64 a0_1], .agg #[.int .u64 a1_0, .int .u64 a1_1]] w fun e w' => e = .returned (.agg #[.int .u64 r1, .int .u64 r2]) ∧ Below w.heap.size w w' := by
 have hu26 := Try.underlying26
 have HB := Aside0.mk (Below.refl w.heap.size w)
 have H : (if a1_0 < a0_0 then (if a1_1 > a0_1 then (some (a1_0, a1_1)) else (some (a1_0, a0_1))) else (if a1_1 > a0_1 then (some (a0_0, a1_1)) else (some (a0_0, a0_1)))) = some (r1, r2) := h
 clear h
 by_cases c3 : a1_0 < a0_0
 ·rw [if_pos c3] at H
  have c3b0 : decide (a1_0 < a0_0) = true := decide_eq_true c3
  clear c3
  by_cases c4 : a1_1 > a0_1
  ·rw [if_pos c4] at H
   have c4b0 : decide (a0_1 < a1_1) = true := decide_eq_true c4
   clear c4
   simp only [Option.some.injEq, Prod.mk.injEq] at H
   obtain ⟨rfl, rfl⟩ := H
   go_enter Try.func59, Try.ntmps59
   go_wp2_with (first | ((with_reducible refine gate_dst (N := 2) rfl ?_); refine bx_ 2 #[.int .u64 a0_0, .int .u64 a0_1] 26 ?_; intro gb634 hg w5 BK634 hb; have GW634 := bg_ hg; have GE634 := GW634; replace HB := bl_ hb; clear hb hg) | ((with_reducible refine gate_dst (N := 3) rfl ?_); refine bx_ 3 #[.int .u64 a1_0, .int .u64 a1_1] 26 ?_; intro gb635 hg w6 BK635 hb; have GW635 := bg_ hg; have GE635 := GW635; have NB634_635 := bm_ hg BK634; have NB635_634 := bn_ hg BK634; replace BK634 := bb_ hb BK634; replace HB := bl_ hb; clear hb hg) | ((with_reducible refine gate_dst (N := 4) rfl ?_); refine bx_ 4 #[.int .u64 0, .int .u64 0] 26 ?_; intro gb636 hg w7 BK636 hb; have GW636 := bg_ hg; have GE636 := GW636; have NB634_636 := bm_ hg BK634; have NB636_634 := bn_ hg BK634; have NB635_636 := bm_ hg BK635; have NB636_635 := bn_ hg BK635; replace BK634 := bb_ hb BK634; replace BK635 := bb_ hb BK635; replace HB := bl_ hb; clear hb hg; have hnb8 := NB635_634.out; have hnc8 := NB634_635.out; have hnb9 := NB635_636.out; have hnc9 := NB636_635.out; have hcz10_0 := c0_ BK635; have hcz10_1 := c1_ BK635; have hfz10_0 := fz_ BK635 0; have hfz10_1 := fz_ BK635 1; have hnb11 := NB634_636.out; have hnc11 := NB636_634.out; have hcz12_0 := c0_ BK634; have hcz12_1 := c1_ BK634; have hfz12_0 := fz_ BK634 0; have hfz12_1 := fz_ BK634 1; have hcz13_0 := c0_ BK636; have hcz13_1 := c1_ BK636; have hfz13_0 := fz_ BK636 0; have hfz13_1 := fz_ BK636 1))
   refine bodyPost_ret (results_cell_row rfl _ _ gb636 26 #[.int .u64 a1_0, .int .u64 a1_1] (0, 0) _ rfl (by (with_reducible repeat (first | apply bN_ | apply bD_ | apply bA_)); refine blk_put (cs := #[.int .u64 a1_0, .int .u64 0]) ?_ 1 _ rfl; (with_reducible repeat (first | apply bN_ | apply bD_ | apply bA_)); refine blk_put (cs := #[.int .u64 0, .int .u64 0]) ?_ 0 _ rfl; (with_reducible repeat (first | apply bN_ | apply bD_ | apply bA_)); refine blk_far ?_ NB636_634.out _; (with_reducible repeat (first | apply bN_ | apply bD_ | apply bA_)); refine blk_far ?_ NB636_634.out _; exact bk_) Try.underlying26 rfl (by kernel_rfl)) rfl ?_
   exact ⟨vv_, bz_⟩
  ·rw [if_neg c4] at H
   have c4b0 : decide (a0_1 < a1_1) = false := decide_eq_false c4
   clear c4
   simp only [Option.some.injEq, Prod.mk.injEq] at H
   obtain ⟨rfl, rfl⟩ := H
   go_enter Try.func59, Try.ntmps59
   go_wp2_with (first | ((with_reducible refine gate_dst (N := 2) rfl ?_); refine bx_ 2 #[.int .u64 a0_0, .int .u64 a0_1] 26 ?_; intro gb634 hg w14 BK634 hb; have GW634 := bg_ hg; have GE634 := GW634; replace HB := bl_ hb; clear hb hg) | ((with_reducible refine gate_dst (N := 3) rfl ?_); refine bx_ 3 #[.int .u64 a1_0, .int .u64 a1_1] 26 ?_; intro gb635 hg w15 BK635 hb; have GW635 := bg_ hg; have GE635 := GW635; have NB634_635 := bm_ hg BK634; have NB635_634 := bn_ hg BK634; replace BK634 := bb_ hb BK634; replace HB := bl_ hb; clear hb hg) | ((with_reducible refine gate_dst (N := 4) rfl ?_); refine bx_ 4 #[.int .u64 0, .int .u64 0] 26 ?_; intro gb636 hg w16 BK636 hb; have GW636 := bg_ hg; have GE636 := GW636; have NB634_636 := bm_ hg BK634; have NB636_634 := bn_ hg BK634; have NB635_636 := bm_ hg BK635; have NB636_635 := bn_ hg BK635; replace BK634 := bb_ hb BK634; replace BK635 := bb_ hb BK635; replace HB := bl_ hb; clear hb hg; have hnb17 := NB635_634.out; have hnc17 := NB634_635.out; have hnb18 := NB635_636.out; have hnc18 := NB636_635.out; have hcz19_0 := c0_ BK635; have hcz19_1 := c1_ BK635; have hfz19_0 := fz_ BK635 0; have hfz19_1 := fz_ BK635 1; have hnb20 := NB634_636.out; have hnc20 := NB636_634.out; have hcz21_0 := c0_ BK634; have hcz21_1 := c1_ BK634; have hfz21_0 := fz_ BK634 0; have hfz21_1 := fz_ BK634 1; have hcz22_0 := c0_ BK636; have hcz22_1 := c1_ BK636; have hfz22_0 := fz_ BK636 0; have hfz22_1 := fz_ BK636 1))
   refine bodyPost_ret (results_cell_row rfl _ _ gb636 26 #[.int .u64 a1_0, .int .u64 a0_1] (0, 0) _ rfl (by (with_reducible repeat (first | apply bN_ | apply bD_ | apply bA_)); refine blk_put (cs := #[.int .u64 a1_0, .int .u64 0]) ?_ 1 _ rfl; (with_reducible repeat (first | apply bN_ | apply bD_ | apply bA_)); refine blk_put (cs := #[.int .u64 0, .int .u64 0]) ?_ 0 _ rfl; (with_reducible repeat (first | apply bN_ | apply bD_ | apply bA_)); refine blk_far ?_ NB636_634.out _; exact bk_) Try.underlying26 rfl (by kernel_rfl)) rfl ?_
   exact ⟨vv_, bz_⟩
 ·rw [if_neg c3] at H
  have c3b0 : decide (a1_0 < a0_0) = false := decide_eq_false c3
  clear c3
  by_cases c23 : a1_1 > a0_1
  ·rw [if_pos c23] at H
   have c23b0 : decide (a0_1 < a1_1) = true := decide_eq_true c23
   clear c23
   simp only [Option.some.injEq, Prod.mk.injEq] at H
   obtain ⟨rfl, rfl⟩ := H
   go_enter Try.func59, Try.ntmps59
   go_wp2_with (first | ((with_reducible refine gate_dst (N := 2) rfl ?_); refine bx_ 2 #[.int .u64 a0_0, .int .u64 a0_1] 26 ?_; intro gb634 hg w24 BK634 hb; have GW634 := bg_ hg; have GE634 := GW634; replace HB := bl_ hb; clear hb hg) | ((with_reducible refine gate_dst (N := 3) rfl ?_); refine bx_ 3 #[.int .u64 a1_0, .int .u64 a1_1] 26 ?_; intro gb635 hg w25 BK635 hb; have GW635 := bg_ hg; have GE635 := GW635; have NB634_635 := bm_ hg BK634; have NB635_634 := bn_ hg BK634; replace BK634 := bb_ hb BK634; replace HB := bl_ hb; clear hb hg) | ((with_reducible refine gate_dst (N := 4) rfl ?_); refine bx_ 4 #[.int .u64 0, .int .u64 0] 26 ?_; intro gb636 hg w26 BK636 hb; have GW636 := bg_ hg; have GE636 := GW636; have NB634_636 := bm_ hg BK634; have NB636_634 := bn_ hg BK634; have NB635_636 := bm_ hg BK635; have NB636_635 := bn_ hg BK635; replace BK634 := bb_ hb BK634; replace BK635 := bb_ hb BK635; replace HB := bl_ hb; clear hb hg; have hnb27 := NB635_634.out; have hnc27 := NB634_635.out; have hnb28 := NB635_636.out; have hnc28 := NB636_635.out; have hcz29_0 := c0_ BK635; have hcz29_1 := c1_ BK635; have hfz29_0 := fz_ BK635 0; have hfz29_1 := fz_ BK635 1; have hnb30 := NB634_636.out; have hnc30 := NB636_634.out; have hcz31_0 := c0_ BK634; have hcz31_1 := c1_ BK634; have hfz31_0 := fz_ BK634 0; have hfz31_1 := fz_ BK634 1; have hcz32_0 := c0_ BK636; have hcz32_1 := c1_ BK636; have hfz32_0 := fz_ BK636 0; have hfz32_1 := fz_ BK636 1))
   refine bodyPost_ret (results_cell_row rfl _ _ gb636 26 #[.int .u64 a0_0, .int .u64 a1_1] (0, 0) _ rfl (by (with_reducible repeat (first | apply bN_ | apply bD_ | apply bA_)); refine blk_put (cs := #[.int .u64 a0_0, .int .u64 0]) ?_ 1 _ rfl; (with_reducible repeat (first | apply bN_ | apply bD_ | apply bA_)); refine blk_put (cs := #[.int .u64 0, .int .u64 0]) ?_ 0 _ rfl; (with_reducible repeat (first | apply bN_ | apply bD_ | apply bA_)); refine blk_far ?_ NB636_634.out _; exact bk_) Try.underlying26 rfl (by kernel_rfl)) rfl ?_
   exact ⟨vv_, bz_⟩
  ·rw [if_neg c23] at H
   have c23b0 : decide (a0_1 < a1_1) = false := decide_eq_false c23
   clear c23
   simp only [Option.some.injEq, Prod.mk.injEq] at H
   obtain ⟨rfl, rfl⟩ := H
   go_enter Try.func59, Try.ntmps59
   go_wp2_with (first | ((with_reducible refine gate_dst (N := 2) rfl ?_); refine bx_ 2 #[.int .u64 a0_0, .int .u64 a0_1] 26 ?_; intro gb634 hg w33 BK634 hb; have GW634 := bg_ hg; have GE634 := GW634; replace HB := bl_ hb; clear hb hg) | ((with_reducible refine gate_dst (N := 3) rfl ?_); refine bx_ 3 #[.int .u64 a1_0, .int .u64 a1_1] 26 ?_; intro gb635 hg w34 BK635 hb; have GW635 := bg_ hg; have GE635 := GW635; have NB634_635 := bm_ hg BK634; have NB635_634 := bn_ hg BK634; replace BK634 := bb_ hb BK634; replace HB := bl_ hb; clear hb hg) | ((with_reducible refine gate_dst (N := 4) rfl ?_); refine bx_ 4 #[.int .u64 0, .int .u64 0] 26 ?_; intro gb636 hg w35 BK636 hb; have GW636 := bg_ hg; have GE636 := GW636; have NB634_636 := bm_ hg BK634; have NB636_634 := bn_ hg BK634; have NB635_636 := bm_ hg BK635; have NB636_635 := bn_ hg BK635; replace BK634 := bb_ hb BK634; replace BK635 := bb_ hb BK635; replace HB := bl_ hb; clear hb hg; have hnb36 := NB635_634.out; have hnc36 := NB634_635.out; have hnb37 := NB635_636.out; have hnc37 := NB636_635.out; have hcz38_0 := c0_ BK635; have hcz38_1 := c1_ BK635; have hfz38_0 := fz_ BK635 0; have hfz38_1 := fz_ BK635 1; have hnb39 := NB634_636.out; have hnc39 := NB636_634.out; have hcz40_0 := c0_ BK634; have hcz40_1 := c1_ BK634; have hfz40_0 := fz_ BK634 0; have hfz40_1 := fz_ BK634 1; have hcz41_0 := c0_ BK636; have hcz41_1 := c1_ BK636; have hfz41_0 := fz_ BK636 0; have hfz41_1 := fz_ BK636 1))
   refine bodyPost_ret (results_cell_row rfl _ _ gb636 26 #[.int .u64 a0_0, .int .u64 a0_1] (0, 0) _ rfl (by (with_reducible repeat (first | apply bN_ | apply bD_ | apply bA_)); refine blk_put (cs := #[.int .u64 a0_0, .int .u64 0]) ?_ 1 _ rfl; (with_reducible repeat (first | apply bN_ | apply bD_ | apply bA_)); refine blk_put (cs := #[.int .u64 0, .int .u64 0]) ?_ 0 _ rfl; exact bk_) Try.underlying26 rfl (by kernel_rfl)) rfl ?_
   exact ⟨vv_, bz_⟩

end Go.Proofs.Ytnephcecobocdaa.PA
