-- PRINTED by print.py (a twelfth state) out of the translation. Not trusted: Lean checks it.
import Derived.Test.YtnephcecobocdaaPA0
import Derived.Test.YtnephcecobocdaaSq
namespace Go.Proofs.Ytnephcecobocdaa.PA
open Go.RowKit Go.Proofs.YtnephcecobocdaaW.PrintWords Go.Proofs.YtnephcecobocdaaW.PrintLast Go.Proofs.YtnephcecobocdaaW.PrintMore
attribute [local go_sem] max2_int min2_int max_two min_two max_three min_three max_four min_four   -- for this text's walks alone
set_option linter.unusedVariables false
set_option linter.unusedSimpArgs false

/-! ### lockgateref04_SMeet: function 30 -/
def lockgateref04_SMeet.j0 : Nat → Int → Int → Int → Int → Option (Int × Int × Bool)
 | 0, _, _, _, _ => none
 | k + 1, x381000, x381001, x382000, x382001 => if x382001 < x381001 then (if x381000 > x382001 then (some (0, 0, false)) else (some (x381000, x382001, true))) else (if x381000 > x381001 then (some (0, 0, false)) else (some (x381000, x381001, true)))
def lockgateref04_SMeet.f (k : Nat) (a0_0 : Int) (a0_1 : Int) (a1_0 : Int) (a1_1 : Int) : Option (Int × Int × Bool) := if a1_0 > a0_0 then (lockgateref04_SMeet.j0 k a1_0 a0_1 a1_0 a1_1) else (lockgateref04_SMeet.j0 k a0_0 a0_1 a1_0 a1_1)
theorem lockgateref04_SMeet.mono_l : ∀ k, (∀ y0 y1 y2 y3, LeO (lockgateref04_SMeet.j0 k y0 y1 y2 y3) (lockgateref04_SMeet.j0 (k + 1) y0 y1 y2 y3))
 | 0 => fun _ _ _ _ r h => by simp [lockgateref04_SMeet.j0] at h
 | k + 1 => by
  have ih0 := lockgateref04_SMeet.mono_l k
  ·intro y0 y1 y2 y3
   unfold lockgateref04_SMeet.j0
   repeat' first
   | (with_reducible exact ih0 _ _ _ _)
   | (with_reducible exact LeO.refl _)
   | (with_reducible exact LeO.none _)
   | (with_reducible refine LeO.ite ?_ ?_)
   | (with_reducible refine LeO.bind ?_ (fun _ => ?_))
   | exact ih0 _ _ _ _
   | exact LeO.none _
   | refine LeO.ite ?_ ?_
   | refine LeO.bind ?_ (fun _ => ?_)
theorem lockgateref04_SMeet.mono : ∀ a0 a1 a2 a3 k, LeO (lockgateref04_SMeet.f k a0 a1 a2 a3) (lockgateref04_SMeet.f (k + 1) a0 a1 a2 a3) := by
 intro a0 a1 a2 a3 k
 have ih0 := lockgateref04_SMeet.mono_l k
 unfold lockgateref04_SMeet.f
 repeat' first
  | (with_reducible exact ih0 _ _ _ _)
  | (with_reducible exact LeO.refl _)
  | (with_reducible exact LeO.none _)
  | (with_reducible refine LeO.ite ?_ ?_)
  | (with_reducible refine LeO.bind ?_ (fun _ => ?_))
  | exact ih0 _ _ _ _
  | exact LeO.none _
  | refine LeO.ite ?_ ?_
  | refine LeO.bind ?_ (fun _ => ?_)
set_option maxHeartbeats 8000000 in
set_option maxRecDepth 100000 in
theorem lockgateref04_SMeet.calls (k : Nat) (a0_0 : Int) (a0_1 : Int) (a1_0 : Int) (a1_1 : Int) (r1 : Int) (r2 : Int) (r3 : Bool) (w : World) (h : lockgateref04_SMeet.f k a0_0 a0_1 a1_0 a1_1 = some (r1, r2, r3)) :
 Calls Try.prog 30 #[.agg #[.int .i64 a0_0, .int .i64 a0_1], .agg #[.int .i64 a1_0, .int .i64 a1_1]] w fun e w' => e = .returned (.tuple #[.agg #[.int .i64 r1, .int .i64 r2], .bool r3]) ∧ Below w.heap.size w w' := by
 have hu28 := Try.underlying28
 have HB := Aside0.mk (Below.refl w.heap.size w)
 have H : (if a1_0 > a0_0 then (lockgateref04_SMeet.j0 k a1_0 a0_1 a1_0 a1_1) else (lockgateref04_SMeet.j0 k a0_0 a0_1 a1_0 a1_1)) = some (r1, r2, r3) := h
 clear h
 have HC3 := Aside0.mk H
 clear H
 go_enter Try.func30, Try.ntmps30
 go_upto_if 10 with (first | ((with_reducible refine gate_dst (N := 2) rfl ?_); refine bx_ 2 #[.int .i64 a0_0, .int .i64 a0_1] 28 ?_; intro gb380 hg w4 BK380 hb; have GW380 := bg_ hg; have GE380 := GW380; replace HB := bl_ hb; clear hb hg) | ((with_reducible refine gate_dst (N := 3) rfl ?_); refine bx_ 3 #[.int .i64 a1_0, .int .i64 a1_1] 28 ?_; intro gb381 hg w5 BK381 hb; have GW381 := bg_ hg; have GE381 := GW381; have NB380_381 := bm_ hg BK380; have NB381_380 := bn_ hg BK380; replace BK380 := bb_ hb BK380; replace HB := bl_ hb; clear hb hg) | ((with_reducible refine gate_dst (N := 4) rfl ?_); refine bx_ 4 #[.int .i64 0, .int .i64 0] 28 ?_; intro gb382 hg w6 BK382 hb; have GW382 := bg_ hg; have GE382 := GW382; have NB380_382 := bm_ hg BK380; have NB382_380 := bn_ hg BK380; have NB381_382 := bm_ hg BK381; have NB382_381 := bn_ hg BK381; replace BK380 := bb_ hb BK380; replace BK381 := bb_ hb BK381; replace HB := bl_ hb; clear hb hg; have hnb7 := NB381_380.out; have hnc7 := NB380_381.out; have hnb8 := NB381_382.out; have hnc8 := NB382_381.out; have hcz9_0 := c0_ BK381; have hcz9_1 := c1_ BK381; have hfz9_0 := fz_ BK381 0; have hfz9_1 := fz_ BK381 1; have hnb10 := NB380_382.out; have hnc10 := NB382_380.out; have hcz11_0 := c0_ BK380; have hcz11_1 := c1_ BK380; have hfz11_0 := fz_ BK380 0; have hfz11_1 := fz_ BK380 1))
 (try simp only [Act.put, s1_, s2_, s3_])
 go_cut [] (fun wc => ∃ (kq : Nat) (x381000_2 : Int), Aside0 (lockgateref04_SMeet.j0 kq x381000_2 a0_1 a1_0 a1_1 = some (r1, r2, r3)) ∧ Aside0 (kq ≤ k) ∧ Aside0 (wc.heap[gb380]? = some (.cells #[.int .i64 x381000_2, .int .i64 a0_1] 28 (0, 0))) ∧ Aside0 (wc.heap[gb381]? = some (.cells #[.int .i64 a1_0, .int .i64 a1_1] 28 (0, 0))) ∧ Aside0 (wc.heap[gb382]? = some (.cells #[.int .i64 0, .int .i64 0] 28 (0, 0))) ∧ Aside0 (Below w.heap.size w wc))
 case first =>
  have H := HC3.out
  clear HC3
  by_cases c12 : a1_0 > a0_0
  ·rw [if_pos c12] at H
   have c12b0 : decide (a0_0 < a1_0) = true := decide_eq_true c12
   clear c12
   (first | rw [c12b0] | (simp only [i64_w, i32_w]; rw [c12b0]) | skip)
   have H' := Aside0.mk H
   clear H
   have hnb13 := NB381_380.out
   have hnc13 := NB380_381.out
   have hnb14 := NB381_382.out
   have hnc14 := NB382_381.out
   have hcz15_0 := c0_ BK381
   have hcz15_1 := c1_ BK381
   have hfz15_0 := fz_ BK381 0
   have hfz15_1 := fz_ BK381 1
   have hnb16 := NB380_382.out
   have hnc16 := NB382_380.out
   have hcz17_0 := c0_ BK380
   have hcz17_1 := c1_ BK380
   have hfz17_0 := fz_ BK380 0
   have hfz17_1 := fz_ BK380 1
   go_wp2
   go_meet
   case rel => exact ⟨_, (a1_0), H', ⟨by first | omega | exact Nat.le_refl _⟩, ⟨by (with_reducible repeat (first | apply bN_ | apply bD_ | apply bA_)); refine blk_put (cs := #[.int .i64 a0_0, .int .i64 a0_1]) ?_ 0 _ rfl; exact bk_⟩, ⟨by (with_reducible repeat (first | apply bN_ | apply bD_ | apply bA_)); refine blk_far ?_ NB381_380.out _; exact bk_⟩, ⟨by (with_reducible repeat (first | apply bN_ | apply bD_ | apply bA_)); refine blk_far ?_ NB382_380.out _; exact bk_⟩, ⟨by repeat (first | (with_reducible first | exact HB.out | apply lA_ | apply lN_ | apply lD_ | refine lS_ ?_ GE380.out | refine lS_ ?_ GE381.out | refine lS_ ?_ GE382.out) | exact HB.out)⟩⟩
  ·rw [if_neg c12] at H
   have c12b0 : decide (a0_0 < a1_0) = false := decide_eq_false c12
   clear c12
   (first | rw [c12b0] | (simp only [i64_w, i32_w]; rw [c12b0]) | skip)
   have H' := Aside0.mk H
   clear H
   go_wp2
   go_meet
   case rel => exact ⟨_, (a0_0), H', ⟨by first | omega | exact Nat.le_refl _⟩, ⟨by exact bk_⟩, ⟨by exact bk_⟩, ⟨by exact bk_⟩, ⟨by repeat (first | (with_reducible first | exact HB.out | apply lA_ | apply lN_ | apply lD_ | refine lS_ ?_ GE380.out | refine lS_ ?_ GE381.out | refine lS_ ?_ GE382.out) | exact HB.out)⟩⟩
 case rest =>
  clear HC3
  try clear c1
  try clear p2
  try clear c3
  try clear c7
  try clear c8
  try clear c10
  try clear c12
  try clear c12b0
  try clear c13
  try clear c14
  try clear c16
  try clear hcz11_0
  try clear hcz11_1
  try clear hcz15_0
  try clear hcz15_1
  try clear hcz17_0
  try clear hcz17_1
  try clear hcz9_0
  try clear hcz9_1
  try clear hfz11_0
  try clear hfz11_1
  try clear hfz15_0
  try clear hfz15_1
  try clear hfz17_0
  try clear hfz17_1
  try clear hfz9_0
  try clear hfz9_1
  obtain ⟨kq, x381000_2, HA, HJ2, BK380, BK381, BK382, HB⟩ := hcut
  cases kq with
  | zero => exact absurd HA.out (by simp [lockgateref04_SMeet.j0])
  | succ kj2 =>
   have H := HA.out
   clear HA
   simp only [lockgateref04_SMeet.j0] at H
   by_cases c18 : a1_1 < a0_1
   ·rw [if_pos c18] at H
    have c18b0 : decide (a1_1 < a0_1) = true := decide_eq_true c18
    clear c18
    by_cases c19 : x381000_2 > a1_1
    ·rw [if_pos c19] at H
     have c19b0 : decide (a1_1 < x381000_2) = true := decide_eq_true c19
     clear c19
     simp only [Option.some.injEq, Prod.mk.injEq] at H
     obtain ⟨rfl, rfl, rfl⟩ := H
     have hnb20 := NB381_380.out
     have hnc20 := NB380_381.out
     have hnb21 := NB381_382.out
     have hnc21 := NB382_381.out
     have hcz22_0 := c0_ BK381
     have hcz22_1 := c1_ BK381
     have hfz22_0 := fz_ BK381 0
     have hfz22_1 := fz_ BK381 1
     have hnb23 := NB380_382.out
     have hnc23 := NB382_380.out
     have hcz24_0 := c0_ BK380
     have hcz24_1 := c1_ BK380
     have hfz24_0 := fz_ BK380 0
     have hfz24_1 := fz_ BK380 1
     have hcz25_0 := c0_ BK382
     have hcz25_1 := c1_ BK382
     have hfz25_0 := fz_ BK382 0
     have hfz25_1 := fz_ BK382 1
     go_wp2
     refine bodyPost_ret (results_ct rfl _ _ gb382 28 #[.int .i64 0, .int .i64 0] (0, 0) _ rfl (by (with_reducible repeat (first | apply bN_ | apply bD_ | apply bA_)); refine blk_put (cs := #[.int .i64 0, .int .i64 0]) ?_ 1 _ rfl; (with_reducible repeat (first | apply bN_ | apply bD_ | apply bA_)); refine blk_put (cs := #[.int .i64 0, .int .i64 0]) ?_ 0 _ rfl; (with_reducible repeat (first | apply bN_ | apply bD_ | apply bA_)); refine blk_far ?_ NB382_380.out _; exact bk_) Try.underlying28 rfl (by kernel_rfl)) rfl ?_
     exact ⟨vv_, bz_⟩
    ·rw [if_neg c19] at H
     have c19b0 : decide (a1_1 < x381000_2) = false := decide_eq_false c19
     clear c19
     simp only [Option.some.injEq, Prod.mk.injEq] at H
     obtain ⟨rfl, rfl, rfl⟩ := H
     have hnb26 := NB381_380.out
     have hnc26 := NB380_381.out
     have hnb27 := NB381_382.out
     have hnc27 := NB382_381.out
     have hcz28_0 := c0_ BK381
     have hcz28_1 := c1_ BK381
     have hfz28_0 := fz_ BK381 0
     have hfz28_1 := fz_ BK381 1
     have hnb29 := NB380_382.out
     have hnc29 := NB382_380.out
     have hcz30_0 := c0_ BK380
     have hcz30_1 := c1_ BK380
     have hfz30_0 := fz_ BK380 0
     have hfz30_1 := fz_ BK380 1
     have hcz31_0 := c0_ BK382
     have hcz31_1 := c1_ BK382
     have hfz31_0 := fz_ BK382 0
     have hfz31_1 := fz_ BK382 1
     go_wp2
     refine bodyPost_ret (results_ct rfl _ _ gb382 28 #[.int .i64 x381000_2, .int .i64 a1_1] (0, 0) _ rfl (by (with_reducible repeat (first | apply bN_ | apply bD_ | apply bA_)); refine blk_put (cs := #[.int .i64 x381000_2, .int .i64 0]) ?_ 1 _ rfl; (with_reducible repeat (first | apply bN_ | apply bD_ | apply bA_)); refine blk_put (cs := #[.int .i64 0, .int .i64 0]) ?_ 0 _ rfl; (with_reducible repeat (first | apply bN_ | apply bD_ | apply bA_)); refine blk_far ?_ NB382_380.out _; exact bk_) Try.underlying28 rfl (by kernel_rfl)) rfl ?_
     exact ⟨vv_, bz_⟩
   ·rw [if_neg c18] at H
    have c18b0 : decide (a1_1 < a0_1) = false := decide_eq_false c18
    clear c18
    by_cases c32 : x381000_2 > a0_1
    ·rw [if_pos c32] at H
     have c32b0 : decide (a0_1 < x381000_2) = true := decide_eq_true c32
     clear c32
     simp only [Option.some.injEq, Prod.mk.injEq] at H
     obtain ⟨rfl, rfl, rfl⟩ := H
     have hnb33 := NB381_380.out
     have hnc33 := NB380_381.out
     have hnb34 := NB381_382.out
     have hnc34 := NB382_381.out
     have hcz35_0 := c0_ BK381
     have hcz35_1 := c1_ BK381
     have hfz35_0 := fz_ BK381 0
     have hfz35_1 := fz_ BK381 1
     have hnb36 := NB380_382.out
     have hnc36 := NB382_380.out
     have hcz37_0 := c0_ BK380
     have hcz37_1 := c1_ BK380
     have hfz37_0 := fz_ BK380 0
     have hfz37_1 := fz_ BK380 1
     have hcz38_0 := c0_ BK382
     have hcz38_1 := c1_ BK382
     have hfz38_0 := fz_ BK382 0
     have hfz38_1 := fz_ BK382 1
     go_wp2
     refine bodyPost_ret (results_ct rfl _ _ gb382 28 #[.int .i64 0, .int .i64 0] (0, 0) _ rfl (by (with_reducible repeat (first | apply bN_ | apply bD_ | apply bA_)); refine blk_put (cs := #[.int .i64 0, .int .i64 0]) ?_ 1 _ rfl; (with_reducible repeat (first | apply bN_ | apply bD_ | apply bA_)); refine blk_put (cs := #[.int .i64 0, .int .i64 0]) ?_ 0 _ rfl; exact bk_) Try.underlying28 rfl (by kernel_rfl)) rfl ?_
     exact ⟨vv_, bz_⟩
    ·rw [if_neg c32] at H
     have c32b0 : decide (a0_1 < x381000_2) = false := decide_eq_false c32
     clear c32
     simp only [Option.some.injEq, Prod.mk.injEq] at H
     obtain ⟨rfl, rfl, rfl⟩ := H
     have hnb39 := NB381_380.out
     have hnc39 := NB380_381.out
     have hnb40 := NB381_382.out
     have hnc40 := NB382_381.out
     have hcz41_0 := c0_ BK381
     have hcz41_1 := c1_ BK381
     have hfz41_0 := fz_ BK381 0
     have hfz41_1 := fz_ BK381 1
     have hnb42 := NB380_382.out
     have hnc42 := NB382_380.out
     have hcz43_0 := c0_ BK380
     have hcz43_1 := c1_ BK380
     have hfz43_0 := fz_ BK380 0
     have hfz43_1 := fz_ BK380 1
     have hcz44_0 := c0_ BK382
     have hcz44_1 := c1_ BK382
     have hfz44_0 := fz_ BK382 0
     have hfz44_1 := fz_ BK382 1
     go_wp2
     refine bodyPost_ret (results_ct rfl _ _ gb382 28 #[.int .i64 x381000_2, .int .i64 a0_1] (0, 0) _ rfl (by (with_reducible repeat (first | apply bN_ | apply bD_ | apply bA_)); refine blk_put (cs := #[.int .i64 x381000_2, .int .i64 0]) ?_ 1 _ rfl; (with_reducible repeat (first | apply bN_ | apply bD_ | apply bA_)); refine blk_put (cs := #[.int .i64 0, .int .i64 0]) ?_ 0 _ rfl; exact bk_) Try.underlying28 rfl (by kernel_rfl)) rfl ?_
     exact ⟨vv_, bz_⟩

/-! ### lockgateref04_SIn: function 31 -/
def lockgateref04_SIn.f (a0_0 : Int) (a0_1 : Int) (a1 : Int) : Option (Bool) := if (wrap64 (a1)) ≥ a0_0 then (some (decide ((wrap64 (a1)) ≤ a0_1))) else (some false)
set_option maxHeartbeats 8000000 in
set_option maxRecDepth 100000 in
theorem lockgateref04_SIn.calls (a0_0 : Int) (a0_1 : Int) (a1 : Int) (r : Bool) (w : World) (h : lockgateref04_SIn.f a0_0 a0_1 a1 = some r) :
 Calls Try.prog 31 #[.agg #[.int .i64 a0_0, .int .i64 a0_1], .int .u64 a1] w fun e w' => e = .returned (.bool r) ∧ Below w.heap.size w w' := by
 have hu28 := Try.underlying28
 have HB := Aside0.mk (Below.refl w.heap.size w)
 have H : (if (wrap64 (a1)) ≥ a0_0 then (some (decide ((wrap64 (a1)) ≤ a0_1))) else (some false)) = some r := h
 clear h
 by_cases c3 : (wrap64 (a1)) ≥ a0_0
 ·rw [if_pos c3] at H
  have c3b0 : decide (a0_0 ≤ (wrap64 (a1))) = true := decide_eq_true c3
  clear c3
  obtain rfl := Option.some.inj H
  go_enter Try.func31, Try.ntmps31
  go_wp2_with (first | ((with_reducible refine gate_dst (N := 2) rfl ?_); refine bx_ 2 #[.int .i64 a0_0, .int .i64 a0_1] 28 ?_; intro gb383 hg w4 BK383 hb; have GW383 := bg_ hg; have GE383 := GW383; replace HB := bl_ hb; clear hb hg; have hcz5_0 := c0_ BK383; have hcz5_1 := c1_ BK383; have hfz5_0 := fz_ BK383 0; have hfz5_1 := fz_ BK383 1))
  go_ret
  exact ⟨vv_, bz_⟩
 ·rw [if_neg c3] at H
  have c3b0 : decide (a0_0 ≤ (wrap64 (a1))) = false := decide_eq_false c3
  clear c3
  obtain rfl := Option.some.inj H
  go_enter Try.func31, Try.ntmps31
  go_wp2_with (first | ((with_reducible refine gate_dst (N := 2) rfl ?_); refine bx_ 2 #[.int .i64 a0_0, .int .i64 a0_1] 28 ?_; intro gb383 hg w6 BK383 hb; have GW383 := bg_ hg; have GE383 := GW383; replace HB := bl_ hb; clear hb hg; have hcz7_0 := c0_ BK383; have hcz7_1 := c1_ BK383; have hfz7_0 := fz_ BK383 0; have hfz7_1 := fz_ BK383 1))
  go_ret
  exact ⟨vv_, bz_⟩

/-! ### lockgateref04_SWithin: function 32 -/
def lockgateref04_SWithin.f (a0_0 : Int) (a0_1 : Int) (a1_0 : Int) (a1_1 : Int) : Option (Bool) := if a0_0 ≥ a1_0 then (some (decide (a0_1 ≤ a1_1))) else (some false)
set_option maxHeartbeats 8000000 in
set_option maxRecDepth 100000 in
theorem lockgateref04_SWithin.calls (a0_0 : Int) (a0_1 : Int) (a1_0 : Int) (a1_1 : Int) (r : Bool) (w : World) (h : lockgateref04_SWithin.f a0_0 a0_1 a1_0 a1_1 = some r) :
 Calls Try.prog 32 #[.agg #[.int .i64 a0_0, .int .i64 a0_1], .agg #[.int .i64 a1_0, .int .i64 a1_1]] w fun e w' => e = .returned (.bool r) ∧ Below w.heap.size w w' := by
 have hu28 := Try.underlying28
 have HB := Aside0.mk (Below.refl w.heap.size w)
 have H : (if a0_0 ≥ a1_0 then (some (decide (a0_1 ≤ a1_1))) else (some false)) = some r := h
 clear h
 by_cases c3 : a0_0 ≥ a1_0
 ·rw [if_pos c3] at H
  have c3b0 : decide (a1_0 ≤ a0_0) = true := decide_eq_true c3
  clear c3
  obtain rfl := Option.some.inj H
  go_enter Try.func32, Try.ntmps32
  go_wp2_with (first | ((with_reducible refine gate_dst (N := 2) rfl ?_); refine bx_ 2 #[.int .i64 a0_0, .int .i64 a0_1] 28 ?_; intro gb384 hg w4 BK384 hb; have GW384 := bg_ hg; have GE384 := GW384; replace HB := bl_ hb; clear hb hg) | ((with_reducible refine gate_dst (N := 3) rfl ?_); refine bx_ 3 #[.int .i64 a1_0, .int .i64 a1_1] 28 ?_; intro gb385 hg w5 BK385 hb; have GW385 := bg_ hg; have GE385 := GW385; have NB384_385 := bm_ hg BK384; have NB385_384 := bn_ hg BK384; replace BK384 := bb_ hb BK384; replace HB := bl_ hb; clear hb hg; have hnb6 := NB384_385.out; have hnc6 := NB385_384.out; have hcz7_0 := c0_ BK384; have hcz7_1 := c1_ BK384; have hfz7_0 := fz_ BK384 0; have hfz7_1 := fz_ BK384 1; have hcz8_0 := c0_ BK385; have hcz8_1 := c1_ BK385; have hfz8_0 := fz_ BK385 0; have hfz8_1 := fz_ BK385 1))
  go_ret
  exact ⟨vv_, bz_⟩
 ·rw [if_neg c3] at H
  have c3b0 : decide (a1_0 ≤ a0_0) = false := decide_eq_false c3
  clear c3
  obtain rfl := Option.some.inj H
  go_enter Try.func32, Try.ntmps32
  go_wp2_with (first | ((with_reducible refine gate_dst (N := 2) rfl ?_); refine bx_ 2 #[.int .i64 a0_0, .int .i64 a0_1] 28 ?_; intro gb384 hg w9 BK384 hb; have GW384 := bg_ hg; have GE384 := GW384; replace HB := bl_ hb; clear hb hg) | ((with_reducible refine gate_dst (N := 3) rfl ?_); refine bx_ 3 #[.int .i64 a1_0, .int .i64 a1_1] 28 ?_; intro gb385 hg w10 BK385 hb; have GW385 := bg_ hg; have GE385 := GW385; have NB384_385 := bm_ hg BK384; have NB385_384 := bn_ hg BK384; replace BK384 := bb_ hb BK384; replace HB := bl_ hb; clear hb hg; have hnb11 := NB384_385.out; have hnc11 := NB385_384.out; have hcz12_0 := c0_ BK384; have hcz12_1 := c1_ BK384; have hfz12_0 := fz_ BK384 0; have hfz12_1 := fz_ BK384 1; have hcz13_0 := c0_ BK385; have hcz13_1 := c1_ BK385; have hfz13_0 := fz_ BK385 0; have hfz13_1 := fz_ BK385 1))
  go_ret
  exact ⟨vv_, bz_⟩

/-! ### lockgateref04_SJoin: function 33 -/
def lockgateref04_SJoin.f (a0_0 : Int) (a0_1 : Int) (a1_0 : Int) (a1_1 : Int) : Option (Int × Int) := if a1_0 < a0_0 then (if a1_1 > a0_1 then (some (a1_0, a1_1)) else (some (a1_0, a0_1))) else (if a1_1 > a0_1 then (some (a0_0, a1_1)) else (some (a0_0, a0_1)))
set_option maxHeartbeats 8000000 in
set_option maxRecDepth 100000 in
theorem lockgateref04_SJoin.calls (a0_0 : Int) (a0_1 : Int) (a1_0 : Int) (a1_1 : Int) (r1 : Int) (r2 : Int) (w : World) (h : lockgateref04_SJoin.f a0_0 a0_1 a1_0 a1_1 = some (r1, r2)) :
 Calls Try.prog 33 #[.agg #[.int .i64 a0_0, .int .i64 a0_1], .agg #[.int .i64 a1_0, .int .i64 a1_1]] w fun e w' => e = .returned (.agg #[.int .i64 r1, .int .i64 r2]) ∧ Below w.heap.size w w' := by
 have hu28 := Try.underlying28
 have HB := Aside0.mk (Below.refl w.heap.size w)
 have H : (if a1_0 < a0_0 then (if a1_1 > a0_1 then (some (a1_0, a1_1)) else (some (a1_0, a0_1))) else (if a1_1 > a0_1 then (some (a0_0, a1_1)) else (some (a0_0, a0_1)))) = some (r1, r2) := h
 clear h
 by_cases c3 : a1_0 < a0_0
 ·rw [if_pos c3] at H
  have c3b0 : decide (a1_0 < a0_0) = true := decide_eq_true c3
  clear c3
  by_cases c4 : a1_1 > a0_1
  ·rw [if_pos c4] at H
   have c4b0 : decide (a0_1 < a1_1) = true := decide_eq_true c4
   clear c4
   simp only [Option.some.injEq, Prod.mk.injEq] at H
   obtain ⟨rfl, rfl⟩ := H
   go_enter Try.func33, Try.ntmps33
   go_wp2_with (first | ((with_reducible refine gate_dst (N := 2) rfl ?_); refine bx_ 2 #[.int .i64 a0_0, .int .i64 a0_1] 28 ?_; intro gb386 hg w5 BK386 hb; have GW386 := bg_ hg; have GE386 := GW386; replace HB := bl_ hb; clear hb hg) | ((with_reducible refine gate_dst (N := 3) rfl ?_); refine bx_ 3 #[.int .i64 a1_0, .int .i64 a1_1] 28 ?_; intro gb387 hg w6 BK387 hb; have GW387 := bg_ hg; have GE387 := GW387; have NB386_387 := bm_ hg BK386; have NB387_386 := bn_ hg BK386; replace BK386 := bb_ hb BK386; replace HB := bl_ hb; clear hb hg) | ((with_reducible refine gate_dst (N := 4) rfl ?_); refine bx_ 4 #[.int .i64 0, .int .i64 0] 28 ?_; intro gb388 hg w7 BK388 hb; have GW388 := bg_ hg; have GE388 := GW388; have NB386_388 := bm_ hg BK386; have NB388_386 := bn_ hg BK386; have NB387_388 := bm_ hg BK387; have NB388_387 := bn_ hg BK387; replace BK386 := bb_ hb BK386; replace BK387 := bb_ hb BK387; replace HB := bl_ hb; clear hb hg; have hnb8 := NB387_386.out; have hnc8 := NB386_387.out; have hnb9 := NB387_388.out; have hnc9 := NB388_387.out; have hcz10_0 := c0_ BK387; have hcz10_1 := c1_ BK387; have hfz10_0 := fz_ BK387 0; have hfz10_1 := fz_ BK387 1; have hnb11 := NB386_388.out; have hnc11 := NB388_386.out; have hcz12_0 := c0_ BK386; have hcz12_1 := c1_ BK386; have hfz12_0 := fz_ BK386 0; have hfz12_1 := fz_ BK386 1; have hcz13_0 := c0_ BK388; have hcz13_1 := c1_ BK388; have hfz13_0 := fz_ BK388 0; have hfz13_1 := fz_ BK388 1))
   refine bodyPost_ret (results_cell_row rfl _ _ gb388 28 #[.int .i64 a1_0, .int .i64 a1_1] (0, 0) _ rfl (by (with_reducible repeat (first | apply bN_ | apply bD_ | apply bA_)); refine blk_put (cs := #[.int .i64 a1_0, .int .i64 0]) ?_ 1 _ rfl; (with_reducible repeat (first | apply bN_ | apply bD_ | apply bA_)); refine blk_put (cs := #[.int .i64 0, .int .i64 0]) ?_ 0 _ rfl; (with_reducible repeat (first | apply bN_ | apply bD_ | apply bA_)); refine blk_far ?_ NB388_386.out _; (with_reducible repeat (first | apply bN_ | apply bD_ | apply bA_)); refine blk_far ?_ NB388_386.out _; exact bk_) Try.underlying28 rfl (by kernel_rfl)) rfl ?_
   exact ⟨vv_, bz_⟩
  ·rw [if_neg c4] at H
   have c4b0 : decide (a0_1 < a1_1) = false := decide_eq_false c4
   clear c4
   simp only [Option.some.injEq, Prod.mk.injEq] at H
   obtain ⟨rfl, rfl⟩ := H
   go_enter Try.func33, Try.ntmps33
   go_wp2_with (first | ((with_reducible refine gate_dst (N := 2) rfl ?_); refine bx_ 2 #[.int .i64 a0_0, .int .i64 a0_1] 28 ?_; intro gb386 hg w14 BK386 hb; have GW386 := bg_ hg; have GE386 := GW386; replace HB := bl_ hb; clear hb hg) | ((with_reducible refine gate_dst (N := 3) rfl ?_); refine bx_ 3 #[.int .i64 a1_0, .int .i64 a1_1] 28 ?_; intro gb387 hg w15 BK387 hb; have GW387 := bg_ hg; have GE387 := GW387; have NB386_387 := bm_ hg BK386; have NB387_386 := bn_ hg BK386; replace BK386 := bb_ hb BK386; replace HB := bl_ hb; clear hb hg) | ((with_reducible refine gate_dst (N := 4) rfl ?_); refine bx_ 4 #[.int .i64 0, .int .i64 0] 28 ?_; intro gb388 hg w16 BK388 hb; have GW388 := bg_ hg; have GE388 := GW388; have NB386_388 := bm_ hg BK386; have NB388_386 := bn_ hg BK386; have NB387_388 := bm_ hg BK387; have NB388_387 := bn_ hg BK387; replace BK386 := bb_ hb BK386; replace BK387 := bb_ hb BK387; replace HB := bl_ hb; clear hb hg; have hnb17 := NB387_386.out; have hnc17 := NB386_387.out; have hnb18 := NB387_388.out; have hnc18 := NB388_387.out; have hcz19_0 := c0_ BK387; have hcz19_1 := c1_ BK387; have hfz19_0 := fz_ BK387 0; have hfz19_1 := fz_ BK387 1; have hnb20 := NB386_388.out; have hnc20 := NB388_386.out; have hcz21_0 := c0_ BK386; have hcz21_1 := c1_ BK386; have hfz21_0 := fz_ BK386 0; have hfz21_1 := fz_ BK386 1; have hcz22_0 := c0_ BK388; have hcz22_1 := c1_ BK388; have hfz22_0 := fz_ BK388 0; have hfz22_1 := fz_ BK388 1))
   refine bodyPost_ret (results_cell_row rfl _ _ gb388 28 #[.int .i64 a1_0, .int .i64 a0_1] (0, 0) _ rfl (by (with_reducible repeat (first | apply bN_ | apply bD_ | apply bA_)); refine blk_put (cs := #[.int .i64 a1_0, .int .i64 0]) ?_ 1 _ rfl; (with_reducible repeat (first | apply bN_ | apply bD_ | apply bA_)); refine blk_put (cs := #[.int .i64 0, .int .i64 0]) ?_ 0 _ rfl; (with_reducible repeat (first | apply bN_ | apply bD_ | apply bA_)); refine blk_far ?_ NB388_386.out _; exact bk_) Try.underlying28 rfl (by kernel_rfl)) rfl ?_
   exact ⟨vv_, bz_⟩
 ·rw [if_neg c3] at H
  have c3b0 : decide (a1_0 < a0_0) = false := decide_eq_false c3
  clear c3
  by_cases c23 : a1_1 > a0_1
  ·rw [if_pos c23] at H
   have c23b0 : decide (a0_1 < a1_1) = true := decide_eq_true c23
   clear c23
   simp only [Option.some.injEq, Prod.mk.injEq] at H
   obtain ⟨rfl, rfl⟩ := H
   go_enter Try.func33, Try.ntmps33
   go_wp2_with (first | ((with_reducible refine gate_dst (N := 2) rfl ?_); refine bx_ 2 #[.int .i64 a0_0, .int .i64 a0_1] 28 ?_; intro gb386 hg w24 BK386 hb; have GW386 := bg_ hg; have GE386 := GW386; replace HB := bl_ hb; clear hb hg) | ((with_reducible refine gate_dst (N := 3) rfl ?_); refine bx_ 3 #[.int .i64 a1_0, .int .i64 a1_1] 28 ?_; intro gb387 hg w25 BK387 hb; have GW387 := bg_ hg; have GE387 := GW387; have NB386_387 := bm_ hg BK386; have NB387_386 := bn_ hg BK386; replace BK386 := bb_ hb BK386; replace HB := bl_ hb; clear hb hg) | ((with_reducible refine gate_dst (N := 4) rfl ?_); refine bx_ 4 #[.int .i64 0, .int .i64 0] 28 ?_; intro gb388 hg w26 BK388 hb; have GW388 := bg_ hg; have GE388 := GW388; have NB386_388 := bm_ hg BK386; have NB388_386 := bn_ hg BK386; have NB387_388 := bm_ hg BK387; have NB388_387 := bn_ hg BK387; replace BK386 := bb_ hb BK386; replace BK387 := bb_ hb BK387; replace HB := bl_ hb; clear hb hg; have hnb27 := NB387_386.out; have hnc27 := NB386_387.out; have hnb28 := NB387_388.out; have hnc28 := NB388_387.out; have hcz29_0 := c0_ BK387; have hcz29_1 := c1_ BK387; have hfz29_0 := fz_ BK387 0; have hfz29_1 := fz_ BK387 1; have hnb30 := NB386_388.out; have hnc30 := NB388_386.out; have hcz31_0 := c0_ BK386; have hcz31_1 := c1_ BK386; have hfz31_0 := fz_ BK386 0; have hfz31_1 := fz_ BK386 1; have hcz32_0 := c0_ BK388; have hcz32_1 := c1_ BK388; have hfz32_0 := fz_ BK388 0; have hfz32_1 := fz_ BK388 1))
   refine bodyPost_ret (results_cell_row rfl _ _ gb388 28 #[.int .i64 a0_0, .int .i64 a1_1] (0, 0) _ rfl (by (with_reducible repeat (first | apply bN_ | apply bD_ | apply bA_)); refine blk_put (cs := #[.int .i64 a0_0, .int .i64 0]) ?_ 1 _ rfl; (with_reducible repeat (first | apply bN_ | apply bD_ | apply bA_)); refine blk_put (cs := #[.int .i64 0, .int .i64 0]) ?_ 0 _ rfl; (with_reducible repeat (first | apply bN_ | apply bD_ | apply bA_)); refine blk_far ?_ NB388_386.out _; exact bk_) Try.underlying28 rfl (by kernel_rfl)) rfl ?_
   exact ⟨vv_, bz_⟩
  ·rw [if_neg c23] at H
   have c23b0 : decide (a0_1 < a1_1) = false := decide_eq_false c23
   clear c23
   simp only [Option.some.injEq, Prod.mk.injEq] at H
   obtain ⟨rfl, rfl⟩ := H
   go_enter Try.func33, Try.ntmps33
   go_wp2_with (first | ((with_reducible refine gate_dst (N := 2) rfl ?_); refine bx_ 2 #[.int .i64 a0_0, .int .i64 a0_1] 28 ?_; intro gb386 hg w33 BK386 hb; have GW386 := bg_ hg; have GE386 := GW386; replace HB := bl_ hb; clear hb hg) | ((with_reducible refine gate_dst (N := 3) rfl ?_); refine bx_ 3 #[.int .i64 a1_0, .int .i64 a1_1] 28 ?_; intro gb387 hg w34 BK387 hb; have GW387 := bg_ hg; have GE387 := GW387; have NB386_387 := bm_ hg BK386; have NB387_386 := bn_ hg BK386; replace BK386 := bb_ hb BK386; replace HB := bl_ hb; clear hb hg) | ((with_reducible refine gate_dst (N := 4) rfl ?_); refine bx_ 4 #[.int .i64 0, .int .i64 0] 28 ?_; intro gb388 hg w35 BK388 hb; have GW388 := bg_ hg; have GE388 := GW388; have NB386_388 := bm_ hg BK386; have NB388_386 := bn_ hg BK386; have NB387_388 := bm_ hg BK387; have NB388_387 := bn_ hg BK387; replace BK386 := bb_ hb BK386; replace BK387 := bb_ hb BK387; replace HB := bl_ hb; clear hb hg; have hnb36 := NB387_386.out; have hnc36 := NB386_387.out; have hnb37 := NB387_388.out; have hnc37 := NB388_387.out; have hcz38_0 := c0_ BK387; have hcz38_1 := c1_ BK387; have hfz38_0 := fz_ BK387 0; have hfz38_1 := fz_ BK387 1; have hnb39 := NB386_388.out; have hnc39 := NB388_386.out; have hcz40_0 := c0_ BK386; have hcz40_1 := c1_ BK386; have hfz40_0 := fz_ BK386 0; have hfz40_1 := fz_ BK386 1; have hcz41_0 := c0_ BK388; have hcz41_1 := c1_ BK388; have hfz41_0 := fz_ BK388 0; have hfz41_1 := fz_ BK388 1))
   refine bodyPost_ret (results_cell_row rfl _ _ gb388 28 #[.int .i64 a0_0, .int .i64 a0_1] (0, 0) _ rfl (by (with_reducible repeat (first | apply bN_ | apply bD_ | apply bA_)); refine blk_put (cs := #[.int .i64 a0_0, .int .i64 0]) ?_ 1 _ rfl; (with_reducible repeat (first | apply bN_ | apply bD_ | apply bA_)); refine blk_put (cs := #[.int .i64 0, .int .i64 0]) ?_ 0 _ rfl; exact bk_) Try.underlying28 rfl (by kernel_rfl)) rfl ?_
   exact ⟨vv_, bz_⟩

/-! ### lockgateref04_SAll: function 39 -/
def lockgateref04_SAll.f  : Option (Int × Int) := some ((-9223372036854775808), 9223372036854775807)
set_option maxHeartbeats 8000000 in
set_option maxRecDepth 100000 in
theorem lockgateref04_SAll.calls  (r1 : Int) (r2 : Int) (w : World) (h : lockgateref04_SAll.f  = some (r1, r2)) :
 Calls Try.prog 39 #[] w fun e w' => e = .returned (.agg #[.int .i64 r1, .int .i64 r2]) ∧ Below w.heap.size w w' := by
 have hu28 := Try.underlying28
 have HB := Aside0.mk (Below.refl w.heap.size w)
 have H : (some ((-9223372036854775808), 9223372036854775807)) = some (r1, r2) := h
 clear h
 simp only [Option.some.injEq, Prod.mk.injEq] at H
 obtain ⟨rfl, rfl⟩ := H
 go_enter Try.func39, Try.ntmps39
 go_wp2_with (first | ((with_reducible refine gate_dst (N := 0) rfl ?_); refine bx_ 0 #[.int .i64 0, .int .i64 0] 28 ?_; intro gb389 hg w1 BK389 hb; have GW389 := bg_ hg; have GE389 := GW389; replace HB := bl_ hb; clear hb hg; have hcz2_0 := c0_ BK389; have hcz2_1 := c1_ BK389; have hfz2_0 := fz_ BK389 0; have hfz2_1 := fz_ BK389 1))
 refine bodyPost_ret (results_cell_row rfl _ _ gb389 28 #[.int .i64 (-9223372036854775808), .int .i64 9223372036854775807] (0, 0) _ rfl (by (with_reducible repeat (first | apply bN_ | apply bD_ | apply bA_)); refine blk_put (cs := #[.int .i64 (-9223372036854775808), .int .i64 0]) ?_ 1 _ rfl; (with_reducible repeat (first | apply bN_ | apply bD_ | apply bA_)); refine blk_put (cs := #[.int .i64 0, .int .i64 0]) ?_ 0 _ rfl; exact bk_) Try.underlying28 rfl (by kernel_rfl)) rfl ?_
 exact ⟨vv_, bz_⟩

/-! ### lockgateref04_over: function 85 -/
def lockgateref04_over.f (a0 : Int) (a1 : Int) : Option (Bool) := if a1 > 0 then ((lockgateref04_SAll.f).bind fun bt390 => (if a0 > (wrap64 (bt390.2 - a1)) then (some true) else (if a1 < 0 then ((lockgateref04_SAll.f).bind fun bt392 => (some (decide (a0 < (wrap64 (bt392.1 - a1)))))) else (some false)))) else (if a1 < 0 then ((lockgateref04_SAll.f).bind fun bt394 => (some (decide (a0 < (wrap64 (bt394.1 - a1)))))) else (some false))
set_option maxHeartbeats 8000000 in
set_option maxRecDepth 100000 in
theorem lockgateref04_over.calls (a0 : Int) (a1 : Int) (r : Bool) (w : World) (h : lockgateref04_over.f a0 a1 = some r) :
 Calls Try.prog 85 #[.int .i64 a0, .int .i64 a1] w fun e w' => e = .returned (.bool r) ∧ Below w.heap.size w w' := by
 have hu28 := Try.underlying28
 have HB := Aside0.mk (Below.refl w.heap.size w)
 have H : (if a1 > 0 then ((lockgateref04_SAll.f).bind fun bt390 => (if a0 > (wrap64 (bt390.2 - a1)) then (some true) else (if a1 < 0 then ((lockgateref04_SAll.f).bind fun bt392 => (some (decide (a0 < (wrap64 (bt392.1 - a1)))))) else (some false)))) else (if a1 < 0 then ((lockgateref04_SAll.f).bind fun bt394 => (some (decide (a0 < (wrap64 (bt394.1 - a1)))))) else (some false))) = some r := h
 clear h
 by_cases c3 : a1 > 0
 ·rw [if_pos c3] at H
  have c3b0 : decide (0 < a1) = true := decide_eq_true c3
  clear c3
  replace H := Option.bind_eq_some_iff.mp H
  obtain ⟨⟨t390, t391⟩, A40, H⟩ := H
  replace H : (if a0 > (wrap64 (t391 - a1)) then (some true) else (if a1 < 0 then ((lockgateref04_SAll.f).bind fun bt392 => (some (decide (a0 < (wrap64 (bt392.1 - a1)))))) else (some false))) = some r := H
  have A4 := Aside0.mk A40
  clear A40
  by_cases c5 : a0 > (wrap64 (t391 - a1))
  ·rw [if_pos c5] at H
   have c5b0 : decide ((wrap64 (t391 - a1)) < a0) = true := decide_eq_true c5
   clear c5
   obtain rfl := Option.some.inj H
   go_enter Try.func85, Try.ntmps85
   go_wp2_with (first | (go_at_call 39; (with_reducible refine (lockgateref04_SAll.calls  t390 t391 _ A4.out).mono ?_); rintro e w6 ⟨rfl, hb⟩; replace HB := bl_ hb; (try clear hb); (try clear hb2); (try clear hk); (try clear hi)))
   (repeat (simp only [fl28_0, fl28_1]; go_wp2_with (first | (go_at_call 39; (with_reducible refine (lockgateref04_SAll.calls  t390 t391 _ A4.out).mono ?_); rintro e w6 ⟨rfl, hb⟩; replace HB := bl_ hb; (try clear hb); (try clear hb2); (try clear hk); (try clear hi)))))
   go_ret
   exact ⟨by first | rfl | (exfalso; simp only [decide_eq_true_eq, decide_eq_false_iff_not] at *; omega) | (simp [errW_none, errW_some] <;> rfl) | (simp [*, errW_none, errW_some] <;> rfl), bz_⟩
  ·rw [if_neg c5] at H
   have c5b0 : decide ((wrap64 (t391 - a1)) < a0) = false := decide_eq_false c5
   clear c5
   by_cases c7 : a1 < 0
   ·rw [if_pos c7] at H
    have c7b0 : decide (a1 < 0) = true := decide_eq_true c7
    clear c7
    replace H := Option.bind_eq_some_iff.mp H
    obtain ⟨⟨t392, t393⟩, A80, H⟩ := H
    replace H : (some (decide (a0 < (wrap64 (t392 - a1))))) = some r := H
    have A8 := Aside0.mk A80
    clear A80
    obtain rfl := Option.some.inj H
    go_enter Try.func85, Try.ntmps85
    go_wp2_with (first | (go_at_call 39; (with_reducible refine (lockgateref04_SAll.calls  t390 t391 _ A4.out).mono ?_); rintro e w9 ⟨rfl, hb⟩; replace HB := bl_ hb; (try clear hb); (try clear hb2); (try clear hk); (try clear hi)) | (go_at_call 39; (with_reducible refine (lockgateref04_SAll.calls  t392 t393 _ A8.out).mono ?_); rintro e w10 ⟨rfl, hb⟩; replace HB := bl_ hb; (try clear hb); (try clear hb2); (try clear hk); (try clear hi)))
    (repeat (simp only [fl28_0, fl28_1]; go_wp2_with (first | (go_at_call 39; (with_reducible refine (lockgateref04_SAll.calls  t390 t391 _ A4.out).mono ?_); rintro e w9 ⟨rfl, hb⟩; replace HB := bl_ hb; (try clear hb); (try clear hb2); (try clear hk); (try clear hi)) | (go_at_call 39; (with_reducible refine (lockgateref04_SAll.calls  t392 t393 _ A8.out).mono ?_); rintro e w10 ⟨rfl, hb⟩; replace HB := bl_ hb; (try clear hb); (try clear hb2); (try clear hk); (try clear hi)))))
    go_ret
    exact ⟨by first | rfl | (exfalso; simp only [decide_eq_true_eq, decide_eq_false_iff_not] at *; omega) | (simp [errW_none, errW_some] <;> rfl) | (simp [*, errW_none, errW_some] <;> rfl), bz_⟩
   ·rw [if_neg c7] at H
    have c7b0 : decide (a1 < 0) = false := decide_eq_false c7
    clear c7
    obtain rfl := Option.some.inj H
    go_enter Try.func85, Try.ntmps85
    go_wp2_with (first | (go_at_call 39; (with_reducible refine (lockgateref04_SAll.calls  t390 t391 _ A4.out).mono ?_); rintro e w11 ⟨rfl, hb⟩; replace HB := bl_ hb; (try clear hb); (try clear hb2); (try clear hk); (try clear hi)))
    (repeat (simp only [fl28_0, fl28_1]; go_wp2_with (first | (go_at_call 39; (with_reducible refine (lockgateref04_SAll.calls  t390 t391 _ A4.out).mono ?_); rintro e w11 ⟨rfl, hb⟩; replace HB := bl_ hb; (try clear hb); (try clear hb2); (try clear hk); (try clear hi)))))
    go_ret
    exact ⟨by first | rfl | (exfalso; simp only [decide_eq_true_eq, decide_eq_false_iff_not] at *; omega) | (simp [errW_none, errW_some] <;> rfl) | (simp [*, errW_none, errW_some] <;> rfl), bz_⟩
 ·rw [if_neg c3] at H
  have c3b0 : decide (0 < a1) = false := decide_eq_false c3
  clear c3
  by_cases c12 : a1 < 0
  ·rw [if_pos c12] at H
   have c12b0 : decide (a1 < 0) = true := decide_eq_true c12
   clear c12
   replace H := Option.bind_eq_some_iff.mp H
   obtain ⟨⟨t394, t395⟩, A130, H⟩ := H
   replace H : (some (decide (a0 < (wrap64 (t394 - a1))))) = some r := H
   have A13 := Aside0.mk A130
   clear A130
   obtain rfl := Option.some.inj H
   go_enter Try.func85, Try.ntmps85
   go_wp2_with (first | (go_at_call 39; (with_reducible refine (lockgateref04_SAll.calls  t394 t395 _ A13.out).mono ?_); rintro e w14 ⟨rfl, hb⟩; replace HB := bl_ hb; (try clear hb); (try clear hb2); (try clear hk); (try clear hi)))
   (repeat (simp only [fl28_0, fl28_1]; go_wp2_with (first | (go_at_call 39; (with_reducible refine (lockgateref04_SAll.calls  t394 t395 _ A13.out).mono ?_); rintro e w14 ⟨rfl, hb⟩; replace HB := bl_ hb; (try clear hb); (try clear hb2); (try clear hk); (try clear hi)))))
   go_ret
   exact ⟨by first | rfl | (exfalso; simp only [decide_eq_true_eq, decide_eq_false_iff_not] at *; omega) | (simp [errW_none, errW_some] <;> rfl) | (simp [*, errW_none, errW_some] <;> rfl), bz_⟩
  ·rw [if_neg c12] at H
   have c12b0 : decide (a1 < 0) = false := decide_eq_false c12
   clear c12
   obtain rfl := Option.some.inj H
   go_enter Try.func85, Try.ntmps85
   go_wp2
   go_ret
   exact ⟨by first | rfl | (exfalso; simp only [decide_eq_true_eq, decide_eq_false_iff_not] at *; omega) | (simp [errW_none, errW_some] <;> rfl) | (simp [*, errW_none, errW_some] <;> rfl), bz_⟩

end Go.Proofs.Ytnephcecobocdaa.PA
