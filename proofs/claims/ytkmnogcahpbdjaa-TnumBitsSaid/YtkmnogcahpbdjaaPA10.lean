-- PRINTED by print.py (a twelfth state) out of the translation. Not trusted: Lean checks it.
import Derived.Test.YtkmnogcahpbdjaaPA0
import Derived.Test.YtkmnogcahpbdjaaPA7
namespace Go.Proofs.Ytkmnogcahpbdjaa.PA
open Go.RowKit Go.Proofs.YtkmnogcahpbdjaaW.PrintWords Go.Proofs.YtkmnogcahpbdjaaW.PrintLast Go.Proofs.YtkmnogcahpbdjaaW.PrintMore
attribute [local go_sem] max2_int min2_int max_two min_two max_three min_three max_four min_four   -- for this text's walks alone
set_option linter.defProp false
def bN_10 := @blk_drewN
def bD_10 := @blk_drew
def bA_10 := @blk_alloc
def lA_10 := @below_alloc
def lN_10 := @pw_below_drewN
def lD_10 := @below_drew1
def lS_10 := @below_set
set_option linter.unusedVariables false
set_option linter.unusedSimpArgs false

/-! ### lockgateref03_Join: function 32 -/
def lockgateref03_Join.l0 : Nat → Int → Int → Int → Int → Int → Int → Int → Option (Int × Int)
  | 0, _, _, _, _, _, _, _ => none
  | k + 1, x6, x248000, x248001, x249000, x249001, x251000, x251001 => if x6 < 64 then (if 0 ≤ x6 then (if (Int.tmod (shr .u64 x248001 x6) 2) = 1 then (lockgateref03_Join.l0 k (IntKind.u64.wrap (x6 + 1)) x248000 x248001 x249000 x249001 x251000 (Go.bits .or .u64 x251001 (shl .u64 1 x6))) else (if (Int.tmod (shr .u64 x249001 x6) 2) = 1 then (lockgateref03_Join.l0 k (IntKind.u64.wrap (x6 + 1)) x248000 x248001 x249000 x249001 x251000 (Go.bits .or .u64 x251001 (shl .u64 1 x6))) else (if (Int.tmod (shr .u64 x248000 x6) 2) = (Int.tmod (shr .u64 x249000 x6) 2) then (lockgateref03_Join.l0 k (IntKind.u64.wrap (x6 + 1)) x248000 x248001 x249000 x249001 (Go.bits .or .u64 x251000 (shl .u64 (Int.tmod (shr .u64 x248000 x6) 2) x6)) x251001) else (lockgateref03_Join.l0 k (IntKind.u64.wrap (x6 + 1)) x248000 x248001 x249000 x249001 x251000 (Go.bits .or .u64 x251001 (shl .u64 1 x6)))))) else (none)) else (some (x251000, x251001))
def lockgateref03_Join.f (k : Nat) (a0_0 : Int) (a0_1 : Int) (a1_0 : Int) (a1_1 : Int) : Option (Int × Int) := lockgateref03_Join.l0 k 0 a0_0 a0_1 a1_0 a1_1 0 0
theorem lockgateref03_Join.mono_l : ∀ k, (∀ y0 y1 y2 y3 y4 y5 y6, LeO (lockgateref03_Join.l0 k y0 y1 y2 y3 y4 y5 y6) (lockgateref03_Join.l0 (k + 1) y0 y1 y2 y3 y4 y5 y6))
  | 0 => fun _ _ _ _ _ _ _ r h => by simp [lockgateref03_Join.l0] at h
  | k + 1 => by
    have ih0 := lockgateref03_Join.mono_l k
    · intro y0 y1 y2 y3 y4 y5 y6
      unfold lockgateref03_Join.l0
      repeat' first
      | (with_reducible exact ih0 _ _ _ _ _ _ _)
      | (with_reducible exact LeO.refl _)
      | (with_reducible exact LeO.none _)
      | (with_reducible refine LeO.ite ?_ ?_)
      | (with_reducible refine LeO.bind ?_ (fun _ => ?_))
      | exact ih0 _ _ _ _ _ _ _
      | exact LeO.none _
      | refine LeO.ite ?_ ?_
      | refine LeO.bind ?_ (fun _ => ?_)
theorem lockgateref03_Join.mono : ∀ a0 a1 a2 a3 k, LeO (lockgateref03_Join.f k a0 a1 a2 a3) (lockgateref03_Join.f (k + 1) a0 a1 a2 a3) := by
  intro a0 a1 a2 a3 k
  have ih0 := lockgateref03_Join.mono_l k
  unfold lockgateref03_Join.f
  repeat' first
      | (with_reducible exact ih0 _ _ _ _ _ _ _)
      | (with_reducible exact LeO.refl _)
      | (with_reducible exact LeO.none _)
      | (with_reducible refine LeO.ite ?_ ?_)
      | (with_reducible refine LeO.bind ?_ (fun _ => ?_))
      | exact ih0 _ _ _ _ _ _ _
      | exact LeO.none _
      | refine LeO.ite ?_ ?_
      | refine LeO.bind ?_ (fun _ => ?_)
set_option maxHeartbeats 8000000 in
set_option maxRecDepth 100000 in
theorem lockgateref03_Join.calls (k : Nat) (a0_0 : Int) (a0_1 : Int) (a1_0 : Int) (a1_1 : Int) (r1 : Int) (r2 : Int) (w : World) (h : lockgateref03_Join.f k a0_0 a0_1 a1_0 a1_1 = some (r1, r2)) :
    Calls Try.prog 32 #[.agg #[.int .u64 a0_0, .int .u64 a0_1], .agg #[.int .u64 a1_0, .int .u64 a1_1]] w fun e w' => e = .returned (.agg #[.int .u64 r1, .int .u64 r2]) ∧ Below w.heap.size w w' := by
  have hu24 := Try.underlying24
  have HB := Aside0.mk (Below.refl w.heap.size w)
  have H : (lockgateref03_Join.l0 k 0 a0_0 a0_1 a1_0 a1_1 0 0) = some (r1, r2) := h
  clear h
  have H' := Aside0.mk H
  clear H
  go_enter Try.func32, Try.ntmps32
  go_wp2_with (first | ((with_reducible refine gate_dst (N := 2) rfl ?_); refine box_event ?hg (N := 2) ?hd (cs := #[.int .u64 a0_0, .int .u64 a0_1]) (t := 24) ?hr ?_; (case hd => rfl); (case hg => rfl); (case hr => first | (go_simp; done) | (go_simp; rfl)); intro gb247 hg w3 hbox hb; have n0_ := Aside0.mk (below_step (by repeat (first | (with_reducible first | exact HB.out | apply lA_10 | apply lN_10 | apply lD_10) | exact HB.out)) hb); have n1_ := Aside0.mk (hbox); have n2_ := Aside0.mk ((by rw [hg]; exact (below_size (by repeat (first | (with_reducible first | exact HB.out | apply lA_10 | apply lN_10 | apply lD_10) | exact HB.out))) : w.heap.size ≤ gb247)); have n3_ := Aside0.mk ((by rw [hg]; exact (below_size (by repeat (first | (with_reducible first | exact HB.out | apply lA_10 | apply lN_10 | apply lD_10) | exact HB.out))) : w.heap.size ≤ gb247)); clear HB; have HB := n0_; have BK247 := n1_; have GW247 := n2_; have GE247 := n3_; clear n0_ n1_ n2_ n3_; clear hb hbox hg) | ((with_reducible refine gate_dst (N := 3) rfl ?_); refine box_event ?hg (N := 3) ?hd (cs := #[.int .u64 a1_0, .int .u64 a1_1]) (t := 24) ?hr ?_; (case hd => rfl); (case hg => rfl); (case hr => first | (go_simp; done) | (go_simp; rfl)); intro gb248 hg w4 hbox hb; have n0_ := Aside0.mk (blk_below (g := gb247) (o := .cells #[.int .u64 a0_0, .int .u64 a0_1] 24 (0, 0)) (by (with_reducible repeat (first | apply bN_10 | apply bD_10 | apply bA_10)); exact BK247.out) hb); have n1_ := Aside0.mk (below_step (by repeat (first | (with_reducible first | exact HB.out | apply lA_10 | apply lN_10 | apply lD_10 | refine lS_10 ?_ GE247.out) | exact HB.out)) hb); have n2_ := Aside0.mk (hbox); have n3_ := Aside0.mk ((by rw [hg]; exact (below_size (by repeat (first | (with_reducible first | exact HB.out | apply lA_10 | apply lN_10 | apply lD_10 | refine lS_10 ?_ GE247.out) | exact HB.out))) : w.heap.size ≤ gb248)); have n4_ := Aside0.mk ((by rw [hg]; exact (below_size (by repeat (first | (with_reducible first | exact HB.out | apply lA_10 | apply lN_10 | apply lD_10 | refine lS_10 ?_ GE247.out) | exact HB.out))) : w.heap.size ≤ gb248)); have n5_ := Aside0.mk ((by rw [hg]; exact Nat.ne_of_lt (blk_lt (g := gb247) (o := .cells #[.int .u64 a0_0, .int .u64 a0_1] 24 (0, 0)) (by (with_reducible repeat (first | apply bN_10 | apply bD_10 | apply bA_10)); exact BK247.out)) : gb247 ≠ gb248)); have n6_ := Aside0.mk ((by rw [hg]; exact Nat.ne_of_gt (blk_lt (g := gb247) (o := .cells #[.int .u64 a0_0, .int .u64 a0_1] 24 (0, 0)) (by (with_reducible repeat (first | apply bN_10 | apply bD_10 | apply bA_10)); exact BK247.out)) : gb248 ≠ gb247)); clear BK247; clear HB; have BK247 := n0_; have HB := n1_; have BK248 := n2_; have GW248 := n3_; have GE248 := n4_; have NB247_248 := n5_; have NB248_247 := n6_; clear n0_ n1_ n2_ n3_ n4_ n5_ n6_; clear hb hbox hg) | ((with_reducible refine gate_dst (N := 4) rfl ?_); refine box_event ?hg (N := 4) ?hd (cs := #[.int .u64 0, .int .u64 0]) (t := 24) ?hr ?_; (case hd => rfl); (case hg => rfl); (case hr => first | (go_simp; done) | (go_simp; rfl)); intro gb249 hg w5 hbox hb; have n0_ := Aside0.mk (blk_below (g := gb247) (o := .cells #[.int .u64 a0_0, .int .u64 a0_1] 24 (0, 0)) (by (with_reducible repeat (first | apply bN_10 | apply bD_10 | apply bA_10)); exact BK247.out) hb); have n1_ := Aside0.mk (blk_below (g := gb248) (o := .cells #[.int .u64 a1_0, .int .u64 a1_1] 24 (0, 0)) (by (with_reducible repeat (first | apply bN_10 | apply bD_10 | apply bA_10)); exact BK248.out) hb); have n2_ := Aside0.mk (below_step (by repeat (first | (with_reducible first | exact HB.out | apply lA_10 | apply lN_10 | apply lD_10 | refine lS_10 ?_ GE247.out | refine lS_10 ?_ GE248.out) | exact HB.out)) hb); have n3_ := Aside0.mk (hbox); have n4_ := Aside0.mk ((by rw [hg]; exact (below_size (by repeat (first | (with_reducible first | exact HB.out | apply lA_10 | apply lN_10 | apply lD_10 | refine lS_10 ?_ GE247.out | refine lS_10 ?_ GE248.out) | exact HB.out))) : w.heap.size ≤ gb249)); have n5_ := Aside0.mk ((by rw [hg]; exact (below_size (by repeat (first | (with_reducible first | exact HB.out | apply lA_10 | apply lN_10 | apply lD_10 | refine lS_10 ?_ GE247.out | refine lS_10 ?_ GE248.out) | exact HB.out))) : w.heap.size ≤ gb249)); have n6_ := Aside0.mk ((by rw [hg]; exact Nat.ne_of_lt (blk_lt (g := gb247) (o := .cells #[.int .u64 a0_0, .int .u64 a0_1] 24 (0, 0)) (by (with_reducible repeat (first | apply bN_10 | apply bD_10 | apply bA_10)); exact BK247.out)) : gb247 ≠ gb249)); have n7_ := Aside0.mk ((by rw [hg]; exact Nat.ne_of_gt (blk_lt (g := gb247) (o := .cells #[.int .u64 a0_0, .int .u64 a0_1] 24 (0, 0)) (by (with_reducible repeat (first | apply bN_10 | apply bD_10 | apply bA_10)); exact BK247.out)) : gb249 ≠ gb247)); have n8_ := Aside0.mk ((by rw [hg]; exact Nat.ne_of_lt (blk_lt (g := gb248) (o := .cells #[.int .u64 a1_0, .int .u64 a1_1] 24 (0, 0)) (by (with_reducible repeat (first | apply bN_10 | apply bD_10 | apply bA_10)); exact BK248.out)) : gb248 ≠ gb249)); have n9_ := Aside0.mk ((by rw [hg]; exact Nat.ne_of_gt (blk_lt (g := gb248) (o := .cells #[.int .u64 a1_0, .int .u64 a1_1] 24 (0, 0)) (by (with_reducible repeat (first | apply bN_10 | apply bD_10 | apply bA_10)); exact BK248.out)) : gb249 ≠ gb248)); clear BK247; clear BK248; clear HB; have BK247 := n0_; have BK248 := n1_; have HB := n2_; have BK249 := n3_; have GW249 := n4_; have GE249 := n5_; have NB247_249 := n6_; have NB249_247 := n7_; have NB248_249 := n8_; have NB249_248 := n9_; clear n0_ n1_ n2_ n3_ n4_ n5_ n6_ n7_ n8_ n9_; clear hb hbox hg) | ((with_reducible refine gate_dst (N := 5) rfl ?_); refine box_event ?hg (N := 5) ?hd (cs := #[.int .u64 0, .int .u64 0]) (t := 24) ?hr ?_; (case hd => rfl); (case hg => rfl); (case hr => first | (go_simp; done) | (go_simp; rfl)); intro gb250 hg w6 hbox hb; have n0_ := Aside0.mk (blk_below (g := gb247) (o := .cells #[.int .u64 a0_0, .int .u64 a0_1] 24 (0, 0)) (by (with_reducible repeat (first | apply bN_10 | apply bD_10 | apply bA_10)); exact BK247.out) hb); have n1_ := Aside0.mk (blk_below (g := gb248) (o := .cells #[.int .u64 a1_0, .int .u64 a1_1] 24 (0, 0)) (by (with_reducible repeat (first | apply bN_10 | apply bD_10 | apply bA_10)); exact BK248.out) hb); have n2_ := Aside0.mk (blk_below (g := gb249) (o := .cells #[.int .u64 0, .int .u64 0] 24 (0, 0)) (by (with_reducible repeat (first | apply bN_10 | apply bD_10 | apply bA_10)); exact BK249.out) hb); have n3_ := Aside0.mk (below_step (by repeat (first | (with_reducible first | exact HB.out | apply lA_10 | apply lN_10 | apply lD_10 | refine lS_10 ?_ GE247.out | refine lS_10 ?_ GE248.out | refine lS_10 ?_ GE249.out) | exact HB.out)) hb); have n4_ := Aside0.mk (hbox); have n5_ := Aside0.mk ((by rw [hg]; exact (below_size (by repeat (first | (with_reducible first | exact HB.out | apply lA_10 | apply lN_10 | apply lD_10 | refine lS_10 ?_ GE247.out | refine lS_10 ?_ GE248.out | refine lS_10 ?_ GE249.out) | exact HB.out))) : w.heap.size ≤ gb250)); have n6_ := Aside0.mk ((by rw [hg]; exact (below_size (by repeat (first | (with_reducible first | exact HB.out | apply lA_10 | apply lN_10 | apply lD_10 | refine lS_10 ?_ GE247.out | refine lS_10 ?_ GE248.out | refine lS_10 ?_ GE249.out) | exact HB.out))) : w.heap.size ≤ gb250)); have n7_ := Aside0.mk ((by rw [hg]; exact Nat.ne_of_lt (blk_lt (g := gb247) (o := .cells #[.int .u64 a0_0, .int .u64 a0_1] 24 (0, 0)) (by (with_reducible repeat (first | apply bN_10 | apply bD_10 | apply bA_10)); exact BK247.out)) : gb247 ≠ gb250)); have n8_ := Aside0.mk ((by rw [hg]; exact Nat.ne_of_gt (blk_lt (g := gb247) (o := .cells #[.int .u64 a0_0, .int .u64 a0_1] 24 (0, 0)) (by (with_reducible repeat (first | apply bN_10 | apply bD_10 | apply bA_10)); exact BK247.out)) : gb250 ≠ gb247)); have n9_ := Aside0.mk ((by rw [hg]; exact Nat.ne_of_lt (blk_lt (g := gb248) (o := .cells #[.int .u64 a1_0, .int .u64 a1_1] 24 (0, 0)) (by (with_reducible repeat (first | apply bN_10 | apply bD_10 | apply bA_10)); exact BK248.out)) : gb248 ≠ gb250)); have n10_ := Aside0.mk ((by rw [hg]; exact Nat.ne_of_gt (blk_lt (g := gb248) (o := .cells #[.int .u64 a1_0, .int .u64 a1_1] 24 (0, 0)) (by (with_reducible repeat (first | apply bN_10 | apply bD_10 | apply bA_10)); exact BK248.out)) : gb250 ≠ gb248)); have n11_ := Aside0.mk ((by rw [hg]; exact Nat.ne_of_lt (blk_lt (g := gb249) (o := .cells #[.int .u64 0, .int .u64 0] 24 (0, 0)) (by (with_reducible repeat (first | apply bN_10 | apply bD_10 | apply bA_10)); exact BK249.out)) : gb249 ≠ gb250)); have n12_ := Aside0.mk ((by rw [hg]; exact Nat.ne_of_gt (blk_lt (g := gb249) (o := .cells #[.int .u64 0, .int .u64 0] 24 (0, 0)) (by (with_reducible repeat (first | apply bN_10 | apply bD_10 | apply bA_10)); exact BK249.out)) : gb250 ≠ gb249)); clear BK247; clear BK248; clear BK249; clear HB; have BK247 := n0_; have BK248 := n1_; have BK249 := n2_; have HB := n3_; have BK250 := n4_; have GW250 := n5_; have GE250 := n6_; have NB247_250 := n7_; have NB250_247 := n8_; have NB248_250 := n9_; have NB250_248 := n10_; have NB249_250 := n11_; have NB250_249 := n12_; clear n0_ n1_ n2_ n3_ n4_ n5_ n6_ n7_ n8_ n9_ n10_ n11_ n12_; clear hb hbox hg))
  go_loopg [6] k (fun kq v6 w' => ∃ (x6_1 : Int) (x251000_1 : Int) (x251001_1 : Int), v6 = .int .u64 x6_1 ∧ Aside0 (lockgateref03_Join.l0 kq x6_1 a0_0 a0_1 a1_0 a1_1 x251000_1 x251001_1 = some (r1, r2)) ∧ Aside0 (kq ≤ k) ∧ Aside0 (w'.heap[gb247]? = some (.cells #[.int .u64 a0_0, .int .u64 a0_1] 24 (0, 0))) ∧ Aside0 (w'.heap[gb248]? = some (.cells #[.int .u64 a1_0, .int .u64 a1_1] 24 (0, 0))) ∧ Aside0 (w'.heap[gb249]? = some (.cells #[.int .u64 0, .int .u64 0] 24 (0, 0))) ∧ Aside0 (w'.heap[gb250]? = some (.cells #[.int .u64 x251000_1, .int .u64 x251001_1] 24 (0, 0))) ∧ Aside0 (Below w.heap.size w w'))
  case atStart => exact ⟨(0), (0), (0), (by first | rfl | (simp; done) | (simp [*]; done)), H', ⟨Nat.le_refl _⟩, ⟨by (with_reducible repeat (first | apply bN_10 | apply bD_10 | apply bA_10)); exact BK247.out⟩, ⟨by (with_reducible repeat (first | apply bN_10 | apply bD_10 | apply bA_10)); exact BK248.out⟩, ⟨by (with_reducible repeat (first | apply bN_10 | apply bD_10 | apply bA_10)); exact BK249.out⟩, ⟨by (with_reducible repeat (first | apply bN_10 | apply bD_10 | apply bA_10)); exact BK250.out⟩, ⟨by repeat (first | (with_reducible first | exact HB.out | apply lA_10 | apply lN_10 | apply lD_10 | refine lS_10 ?_ GE247.out | refine lS_10 ?_ GE248.out | refine lS_10 ?_ GE249.out | refine lS_10 ?_ GE250.out) | exact HB.out)⟩⟩
  case round =>
    clear H'
    try clear p2
    try clear c3
    obtain ⟨x6_1, x251000_1, x251001_1, rfl, HA, HK1, BK247, BK248, BK249, BK250, HB⟩ := hrel
    cases gk with
    | zero => exact absurd HA.out (by simp [lockgateref03_Join.l0])
    | succ k1 =>
      have H := HA.out
      clear HA
      simp only [lockgateref03_Join.l0] at H
      by_cases c7 : x6_1 < 64
      · rw [if_pos c7] at H
        have c7b0 : decide (x6_1 < 64) = true := decide_eq_true c7
        clear c7
        by_cases c8 : 0 ≤ x6_1
        · rw [if_pos c8] at H
          have c8b0 := eq_true c8
          have c8b1 : decide (0 ≤ x6_1) = true := decide_eq_true c8
          clear c8
          obtain ⟨ji9, hji9⟩ : ∃ j_ : Int, (shr .u64 a0_1 x6_1) = j_ := ⟨_, rfl⟩
          replace H : (if (Int.tmod (ji9) 2) = 1 then (lockgateref03_Join.l0 k1 (IntKind.u64.wrap (x6_1 + 1)) a0_0 a0_1 a1_0 a1_1 x251000_1 (Go.bits .or .u64 x251001_1 (shl .u64 1 x6_1))) else (if (Int.tmod (shr .u64 a1_1 x6_1) 2) = 1 then (lockgateref03_Join.l0 k1 (IntKind.u64.wrap (x6_1 + 1)) a0_0 a0_1 a1_0 a1_1 x251000_1 (Go.bits .or .u64 x251001_1 (shl .u64 1 x6_1))) else (if (Int.tmod (shr .u64 a0_0 x6_1) 2) = (Int.tmod (shr .u64 a1_0 x6_1) 2) then (lockgateref03_Join.l0 k1 (IntKind.u64.wrap (x6_1 + 1)) a0_0 a0_1 a1_0 a1_1 (Go.bits .or .u64 x251000_1 (shl .u64 (Int.tmod (shr .u64 a0_0 x6_1) 2) x6_1)) x251001_1) else (lockgateref03_Join.l0 k1 (IntKind.u64.wrap (x6_1 + 1)) a0_0 a0_1 a1_0 a1_1 x251000_1 (Go.bits .or .u64 x251001_1 (shl .u64 1 x6_1)))))) = some (r1, r2) := by first | (rw [hji9] at H; exact H) | (simp only [hji9] at H ⊢; exact H)
          have hji9_ : (a0_1 / 2 ^ min x6_1.toNat 64) = ji9 := hji9
          have hji9z : x6_1 ≤ 64 → (a0_1 / 2 ^ x6_1.toNat) = ji9 := shr_small hji9
          by_cases c10 : (Int.tmod (ji9) 2) = 1
          · rw [if_pos c10] at H
            have c10b0 : ((Int.tmod (ji9) 2) == 1) = true := beq_iff_eq.mpr c10
            have c10b1 : ((Int.tmod (ji9) 2) != 1) = false := bne_eq_false_iff_eq.mpr c10
            clear c10
            have c11b0 := eq_true (of_decide_eq_true (by first | (with_reducible assumption) | assumption) : 0 ≤ x6_1)
            obtain ⟨ji12, hji12⟩ : ∃ j_ : Int, (shl .u64 1 x6_1) = j_ := ⟨_, rfl⟩
            replace H : (lockgateref03_Join.l0 k1 (IntKind.u64.wrap (x6_1 + 1)) a0_0 a0_1 a1_0 a1_1 x251000_1 (Go.bits .or .u64 x251001_1 (ji12))) = some (r1, r2) := by first | (rw [hji12] at H; exact H) | (simp only [hji12] at H ⊢; exact H)
            have hji12_ : (IntKind.u64.wrap (1 * 2 ^ min x6_1.toNat 64)) = ji12 := hji12
            have hji12z : x6_1 ≤ 64 → (IntKind.u64.wrap (1 * 2 ^ x6_1.toNat)) = ji12 := shl_small hji12
            have hji12u : (IntKind.u64.wrap (2 ^ min x6_1.toNat 64)) = ji12 := by have h_ := hji12_; rw [Int.one_mul] at h_; exact h_
            have hji12v : x6_1 ≤ 64 → (IntKind.u64.wrap (2 ^ x6_1.toNat)) = ji12 := fun hle_ => by have h_ := hji12z hle_; rw [Int.one_mul] at h_; exact h_
            have H' := Aside0.mk H
            clear H
            have hnb13 := NB247_248.out
            have hnc13 := NB248_247.out
            have hnb14 := NB247_249.out
            have hnc14 := NB249_247.out
            have hnb15 := NB247_250.out
            have hnc15 := NB250_247.out
            have hcz16_0 : wr.cell? ⟨gb247, 0, none⟩ = some (.int .u64 a0_0) := (blk_cell BK247.out 0).trans rfl
            have hcz16_1 : wr.cell? ⟨gb247, 1, none⟩ = some (.int .u64 a0_1) := (blk_cell BK247.out 1).trans rfl
            have hfz16_0 := blk_frozen BK247.out 0
            have hfz16_1 := blk_frozen BK247.out 1
            have hnb17 := NB250_248.out
            have hnc17 := NB248_250.out
            have hnb18 := NB250_249.out
            have hnc18 := NB249_250.out
            have hcz19_0 : wr.cell? ⟨gb250, 0, none⟩ = some (.int .u64 x251000_1) := (blk_cell BK250.out 0).trans rfl
            have hcz19_1 : wr.cell? ⟨gb250, 1, none⟩ = some (.int .u64 x251001_1) := (blk_cell BK250.out 1).trans rfl
            have hfz19_0 := blk_frozen BK250.out 0
            have hfz19_1 := blk_frozen BK250.out 1
            go_wp2
            go_roundg k1
            case measure => have := HK1.out; omega
            case rel => exact ⟨(IntKind.u64.wrap (x6_1 + 1)), (x251000_1), (Go.bits .or .u64 x251001_1 (ji12)), (by first | rfl | (simp; done) | (simp [*]; done)), H', ⟨by have := HK1.out; omega⟩, ⟨by (with_reducible repeat (first | apply bN_10 | apply bD_10 | apply bA_10)); refine blk_far ?_ NB247_250.out _; (with_reducible repeat (first | apply bN_10 | apply bD_10 | apply bA_10)); exact BK247.out⟩, ⟨by (with_reducible repeat (first | apply bN_10 | apply bD_10 | apply bA_10)); refine blk_far ?_ NB248_250.out _; (with_reducible repeat (first | apply bN_10 | apply bD_10 | apply bA_10)); exact BK248.out⟩, ⟨by (with_reducible repeat (first | apply bN_10 | apply bD_10 | apply bA_10)); refine blk_far ?_ NB249_250.out _; (with_reducible repeat (first | apply bN_10 | apply bD_10 | apply bA_10)); exact BK249.out⟩, ⟨by (with_reducible repeat (first | apply bN_10 | apply bD_10 | apply bA_10)); refine blk_put (cs := #[.int .u64 x251000_1, .int .u64 x251001_1]) ?_ 1 _ rfl; (with_reducible repeat (first | apply bN_10 | apply bD_10 | apply bA_10)); exact BK250.out⟩, ⟨by repeat (first | (with_reducible first | exact HB.out | apply lA_10 | apply lN_10 | apply lD_10 | refine lS_10 ?_ GE247.out | refine lS_10 ?_ GE248.out | refine lS_10 ?_ GE249.out | refine lS_10 ?_ GE250.out) | exact HB.out)⟩⟩
          · rw [if_neg c10] at H
            have c10b0 : ((Int.tmod (ji9) 2) == 1) = false := beq_eq_false_iff_ne.mpr c10
            have c10b1 : ((Int.tmod (ji9) 2) != 1) = true := bne_iff_ne.mpr c10
            have c20b0 := eq_true (of_decide_eq_true (by first | (with_reducible assumption) | assumption) : 0 ≤ x6_1)
            obtain ⟨ji21, hji21⟩ : ∃ j_ : Int, (shr .u64 a1_1 x6_1) = j_ := ⟨_, rfl⟩
            replace H : (if (Int.tmod (ji21) 2) = 1 then (lockgateref03_Join.l0 k1 (IntKind.u64.wrap (x6_1 + 1)) a0_0 a0_1 a1_0 a1_1 x251000_1 (Go.bits .or .u64 x251001_1 (shl .u64 1 x6_1))) else (if (Int.tmod (shr .u64 a0_0 x6_1) 2) = (Int.tmod (shr .u64 a1_0 x6_1) 2) then (lockgateref03_Join.l0 k1 (IntKind.u64.wrap (x6_1 + 1)) a0_0 a0_1 a1_0 a1_1 (Go.bits .or .u64 x251000_1 (shl .u64 (Int.tmod (shr .u64 a0_0 x6_1) 2) x6_1)) x251001_1) else (lockgateref03_Join.l0 k1 (IntKind.u64.wrap (x6_1 + 1)) a0_0 a0_1 a1_0 a1_1 x251000_1 (Go.bits .or .u64 x251001_1 (shl .u64 1 x6_1))))) = some (r1, r2) := by first | (rw [hji21] at H; exact H) | (simp only [hji21] at H ⊢; exact H)
            have hji21_ : (a1_1 / 2 ^ min x6_1.toNat 64) = ji21 := hji21
            have hji21z : x6_1 ≤ 64 → (a1_1 / 2 ^ x6_1.toNat) = ji21 := shr_small hji21
            by_cases c22 : (Int.tmod (ji21) 2) = 1
            · rw [if_pos c22] at H
              have c22b0 : ((Int.tmod (ji21) 2) == 1) = true := beq_iff_eq.mpr c22
              have c22b1 : ((Int.tmod (ji21) 2) != 1) = false := bne_eq_false_iff_eq.mpr c22
              clear c22
              have c23b0 := eq_true (of_decide_eq_true (by first | (with_reducible assumption) | assumption) : 0 ≤ x6_1)
              obtain ⟨ji24, hji24⟩ : ∃ j_ : Int, (shl .u64 1 x6_1) = j_ := ⟨_, rfl⟩
              replace H : (lockgateref03_Join.l0 k1 (IntKind.u64.wrap (x6_1 + 1)) a0_0 a0_1 a1_0 a1_1 x251000_1 (Go.bits .or .u64 x251001_1 (ji24))) = some (r1, r2) := by first | (rw [hji24] at H; exact H) | (simp only [hji24] at H ⊢; exact H)
              have hji24_ : (IntKind.u64.wrap (1 * 2 ^ min x6_1.toNat 64)) = ji24 := hji24
              have hji24z : x6_1 ≤ 64 → (IntKind.u64.wrap (1 * 2 ^ x6_1.toNat)) = ji24 := shl_small hji24
              have hji24u : (IntKind.u64.wrap (2 ^ min x6_1.toNat 64)) = ji24 := by have h_ := hji24_; rw [Int.one_mul] at h_; exact h_
              have hji24v : x6_1 ≤ 64 → (IntKind.u64.wrap (2 ^ x6_1.toNat)) = ji24 := fun hle_ => by have h_ := hji24z hle_; rw [Int.one_mul] at h_; exact h_
              have H' := Aside0.mk H
              clear H
              have hnb25 := NB247_248.out
              have hnc25 := NB248_247.out
              have hnb26 := NB247_249.out
              have hnc26 := NB249_247.out
              have hnb27 := NB247_250.out
              have hnc27 := NB250_247.out
              have hcz28_0 : wr.cell? ⟨gb247, 0, none⟩ = some (.int .u64 a0_0) := (blk_cell BK247.out 0).trans rfl
              have hcz28_1 : wr.cell? ⟨gb247, 1, none⟩ = some (.int .u64 a0_1) := (blk_cell BK247.out 1).trans rfl
              have hfz28_0 := blk_frozen BK247.out 0
              have hfz28_1 := blk_frozen BK247.out 1
              have hnb29 := NB248_249.out
              have hnc29 := NB249_248.out
              have hnb30 := NB248_250.out
              have hnc30 := NB250_248.out
              have hcz31_0 : wr.cell? ⟨gb248, 0, none⟩ = some (.int .u64 a1_0) := (blk_cell BK248.out 0).trans rfl
              have hcz31_1 : wr.cell? ⟨gb248, 1, none⟩ = some (.int .u64 a1_1) := (blk_cell BK248.out 1).trans rfl
              have hfz31_0 := blk_frozen BK248.out 0
              have hfz31_1 := blk_frozen BK248.out 1
              have hnb32 := NB250_249.out
              have hnc32 := NB249_250.out
              have hcz33_0 : wr.cell? ⟨gb250, 0, none⟩ = some (.int .u64 x251000_1) := (blk_cell BK250.out 0).trans rfl
              have hcz33_1 : wr.cell? ⟨gb250, 1, none⟩ = some (.int .u64 x251001_1) := (blk_cell BK250.out 1).trans rfl
              have hfz33_0 := blk_frozen BK250.out 0
              have hfz33_1 := blk_frozen BK250.out 1
              go_wp2
              go_roundg k1
              case measure => have := HK1.out; omega
              case rel => exact ⟨(IntKind.u64.wrap (x6_1 + 1)), (x251000_1), (Go.bits .or .u64 x251001_1 (ji24)), (by first | rfl | (simp; done) | (simp [*]; done)), H', ⟨by have := HK1.out; omega⟩, ⟨by (with_reducible repeat (first | apply bN_10 | apply bD_10 | apply bA_10)); refine blk_far ?_ NB247_250.out _; (with_reducible repeat (first | apply bN_10 | apply bD_10 | apply bA_10)); exact BK247.out⟩, ⟨by (with_reducible repeat (first | apply bN_10 | apply bD_10 | apply bA_10)); refine blk_far ?_ NB248_250.out _; (with_reducible repeat (first | apply bN_10 | apply bD_10 | apply bA_10)); exact BK248.out⟩, ⟨by (with_reducible repeat (first | apply bN_10 | apply bD_10 | apply bA_10)); refine blk_far ?_ NB249_250.out _; (with_reducible repeat (first | apply bN_10 | apply bD_10 | apply bA_10)); exact BK249.out⟩, ⟨by (with_reducible repeat (first | apply bN_10 | apply bD_10 | apply bA_10)); refine blk_put (cs := #[.int .u64 x251000_1, .int .u64 x251001_1]) ?_ 1 _ rfl; (with_reducible repeat (first | apply bN_10 | apply bD_10 | apply bA_10)); exact BK250.out⟩, ⟨by repeat (first | (with_reducible first | exact HB.out | apply lA_10 | apply lN_10 | apply lD_10 | refine lS_10 ?_ GE247.out | refine lS_10 ?_ GE248.out | refine lS_10 ?_ GE249.out | refine lS_10 ?_ GE250.out) | exact HB.out)⟩⟩
            · rw [if_neg c22] at H
              have c22b0 : ((Int.tmod (ji21) 2) == 1) = false := beq_eq_false_iff_ne.mpr c22
              have c22b1 : ((Int.tmod (ji21) 2) != 1) = true := bne_iff_ne.mpr c22
              have c34b0 := eq_true (of_decide_eq_true (by first | (with_reducible assumption) | assumption) : 0 ≤ x6_1)
              obtain ⟨ji35, hji35⟩ : ∃ j_ : Int, (shr .u64 a0_0 x6_1) = j_ := ⟨_, rfl⟩
              replace H : (if (Int.tmod (ji35) 2) = (Int.tmod (shr .u64 a1_0 x6_1) 2) then (lockgateref03_Join.l0 k1 (IntKind.u64.wrap (x6_1 + 1)) a0_0 a0_1 a1_0 a1_1 (Go.bits .or .u64 x251000_1 (shl .u64 (Int.tmod (ji35) 2) x6_1)) x251001_1) else (lockgateref03_Join.l0 k1 (IntKind.u64.wrap (x6_1 + 1)) a0_0 a0_1 a1_0 a1_1 x251000_1 (Go.bits .or .u64 x251001_1 (shl .u64 1 x6_1)))) = some (r1, r2) := by first | (rw [hji35] at H; exact H) | (simp only [hji35] at H ⊢; exact H)
              have hji35_ : (a0_0 / 2 ^ min x6_1.toNat 64) = ji35 := hji35
              have hji35z : x6_1 ≤ 64 → (a0_0 / 2 ^ x6_1.toNat) = ji35 := shr_small hji35
              have c36b0 := eq_true (of_decide_eq_true (by first | (with_reducible assumption) | assumption) : 0 ≤ x6_1)
              obtain ⟨ji37, hji37⟩ : ∃ j_ : Int, (shr .u64 a1_0 x6_1) = j_ := ⟨_, rfl⟩
              replace H : (if (Int.tmod (ji35) 2) = (Int.tmod (ji37) 2) then (lockgateref03_Join.l0 k1 (IntKind.u64.wrap (x6_1 + 1)) a0_0 a0_1 a1_0 a1_1 (Go.bits .or .u64 x251000_1 (shl .u64 (Int.tmod (ji35) 2) x6_1)) x251001_1) else (lockgateref03_Join.l0 k1 (IntKind.u64.wrap (x6_1 + 1)) a0_0 a0_1 a1_0 a1_1 x251000_1 (Go.bits .or .u64 x251001_1 (shl .u64 1 x6_1)))) = some (r1, r2) := by first | (rw [hji37] at H; exact H) | (simp only [hji37] at H ⊢; exact H)
              have hji37_ : (a1_0 / 2 ^ min x6_1.toNat 64) = ji37 := hji37
              have hji37z : x6_1 ≤ 64 → (a1_0 / 2 ^ x6_1.toNat) = ji37 := shr_small hji37
              by_cases c38 : (Int.tmod (ji35) 2) = (Int.tmod (ji37) 2)
              · rw [if_pos c38] at H
                have c38b0 : ((Int.tmod (ji35) 2) == (Int.tmod (ji37) 2)) = true := beq_iff_eq.mpr c38
                have c38b1 : ((Int.tmod (ji35) 2) != (Int.tmod (ji37) 2)) = false := bne_eq_false_iff_eq.mpr c38
                clear c38
                have c39b0 := eq_true (of_decide_eq_true (by first | (with_reducible assumption) | assumption) : 0 ≤ x6_1)
                have c40b0 := eq_true (of_decide_eq_true (by first | (with_reducible assumption) | assumption) : 0 ≤ x6_1)
                obtain ⟨ji41, hji41⟩ : ∃ j_ : Int, (shl .u64 (Int.tmod (ji35) 2) x6_1) = j_ := ⟨_, rfl⟩
                replace H : (lockgateref03_Join.l0 k1 (IntKind.u64.wrap (x6_1 + 1)) a0_0 a0_1 a1_0 a1_1 (Go.bits .or .u64 x251000_1 (ji41)) x251001_1) = some (r1, r2) := by first | (rw [hji41] at H; exact H) | (simp only [hji41] at H ⊢; exact H)
                have hji41_ : (IntKind.u64.wrap ((Int.tmod (ji35) 2) * 2 ^ min x6_1.toNat 64)) = ji41 := hji41
                have hji41z : x6_1 ≤ 64 → (IntKind.u64.wrap ((Int.tmod (ji35) 2) * 2 ^ x6_1.toNat)) = ji41 := shl_small hji41
                have H' := Aside0.mk H
                clear H
                have hnb42 := NB247_248.out
                have hnc42 := NB248_247.out
                have hnb43 := NB247_249.out
                have hnc43 := NB249_247.out
                have hnb44 := NB247_250.out
                have hnc44 := NB250_247.out
                have hcz45_0 : wr.cell? ⟨gb247, 0, none⟩ = some (.int .u64 a0_0) := (blk_cell BK247.out 0).trans rfl
                have hcz45_1 : wr.cell? ⟨gb247, 1, none⟩ = some (.int .u64 a0_1) := (blk_cell BK247.out 1).trans rfl
                have hfz45_0 := blk_frozen BK247.out 0
                have hfz45_1 := blk_frozen BK247.out 1
                have hnb46 := NB248_249.out
                have hnc46 := NB249_248.out
                have hnb47 := NB248_250.out
                have hnc47 := NB250_248.out
                have hcz48_0 : wr.cell? ⟨gb248, 0, none⟩ = some (.int .u64 a1_0) := (blk_cell BK248.out 0).trans rfl
                have hcz48_1 : wr.cell? ⟨gb248, 1, none⟩ = some (.int .u64 a1_1) := (blk_cell BK248.out 1).trans rfl
                have hfz48_0 := blk_frozen BK248.out 0
                have hfz48_1 := blk_frozen BK248.out 1
                have hnb49 := NB250_249.out
                have hnc49 := NB249_250.out
                have hcz50_0 : wr.cell? ⟨gb250, 0, none⟩ = some (.int .u64 x251000_1) := (blk_cell BK250.out 0).trans rfl
                have hcz50_1 : wr.cell? ⟨gb250, 1, none⟩ = some (.int .u64 x251001_1) := (blk_cell BK250.out 1).trans rfl
                have hfz50_0 := blk_frozen BK250.out 0
                have hfz50_1 := blk_frozen BK250.out 1
                go_wp2
                go_roundg k1
                case measure => have := HK1.out; omega
                case rel => exact ⟨(IntKind.u64.wrap (x6_1 + 1)), (Go.bits .or .u64 x251000_1 (ji41)), (x251001_1), (by first | rfl | (simp; done) | (simp [*]; done)), H', ⟨by have := HK1.out; omega⟩, ⟨by (with_reducible repeat (first | apply bN_10 | apply bD_10 | apply bA_10)); refine blk_far ?_ NB247_250.out _; (with_reducible repeat (first | apply bN_10 | apply bD_10 | apply bA_10)); exact BK247.out⟩, ⟨by (with_reducible repeat (first | apply bN_10 | apply bD_10 | apply bA_10)); refine blk_far ?_ NB248_250.out _; (with_reducible repeat (first | apply bN_10 | apply bD_10 | apply bA_10)); exact BK248.out⟩, ⟨by (with_reducible repeat (first | apply bN_10 | apply bD_10 | apply bA_10)); refine blk_far ?_ NB249_250.out _; (with_reducible repeat (first | apply bN_10 | apply bD_10 | apply bA_10)); exact BK249.out⟩, ⟨by (with_reducible repeat (first | apply bN_10 | apply bD_10 | apply bA_10)); refine blk_put (cs := #[.int .u64 x251000_1, .int .u64 x251001_1]) ?_ 0 _ rfl; (with_reducible repeat (first | apply bN_10 | apply bD_10 | apply bA_10)); exact BK250.out⟩, ⟨by repeat (first | (with_reducible first | exact HB.out | apply lA_10 | apply lN_10 | apply lD_10 | refine lS_10 ?_ GE247.out | refine lS_10 ?_ GE248.out | refine lS_10 ?_ GE249.out | refine lS_10 ?_ GE250.out) | exact HB.out)⟩⟩
              · rw [if_neg c38] at H
                have c38b0 : ((Int.tmod (ji35) 2) == (Int.tmod (ji37) 2)) = false := beq_eq_false_iff_ne.mpr c38
                have c38b1 : ((Int.tmod (ji35) 2) != (Int.tmod (ji37) 2)) = true := bne_iff_ne.mpr c38
                have c51b0 := eq_true (of_decide_eq_true (by first | (with_reducible assumption) | assumption) : 0 ≤ x6_1)
                obtain ⟨ji52, hji52⟩ : ∃ j_ : Int, (shl .u64 1 x6_1) = j_ := ⟨_, rfl⟩
                replace H : (lockgateref03_Join.l0 k1 (IntKind.u64.wrap (x6_1 + 1)) a0_0 a0_1 a1_0 a1_1 x251000_1 (Go.bits .or .u64 x251001_1 (ji52))) = some (r1, r2) := by first | (rw [hji52] at H; exact H) | (simp only [hji52] at H ⊢; exact H)
                have hji52_ : (IntKind.u64.wrap (1 * 2 ^ min x6_1.toNat 64)) = ji52 := hji52
                have hji52z : x6_1 ≤ 64 → (IntKind.u64.wrap (1 * 2 ^ x6_1.toNat)) = ji52 := shl_small hji52
                have hji52u : (IntKind.u64.wrap (2 ^ min x6_1.toNat 64)) = ji52 := by have h_ := hji52_; rw [Int.one_mul] at h_; exact h_
                have hji52v : x6_1 ≤ 64 → (IntKind.u64.wrap (2 ^ x6_1.toNat)) = ji52 := fun hle_ => by have h_ := hji52z hle_; rw [Int.one_mul] at h_; exact h_
                have H' := Aside0.mk H
                clear H
                have hnb53 := NB247_248.out
                have hnc53 := NB248_247.out
                have hnb54 := NB247_249.out
                have hnc54 := NB249_247.out
                have hnb55 := NB247_250.out
                have hnc55 := NB250_247.out
                have hcz56_0 : wr.cell? ⟨gb247, 0, none⟩ = some (.int .u64 a0_0) := (blk_cell BK247.out 0).trans rfl
                have hcz56_1 : wr.cell? ⟨gb247, 1, none⟩ = some (.int .u64 a0_1) := (blk_cell BK247.out 1).trans rfl
                have hfz56_0 := blk_frozen BK247.out 0
                have hfz56_1 := blk_frozen BK247.out 1
                have hnb57 := NB248_249.out
                have hnc57 := NB249_248.out
                have hnb58 := NB248_250.out
                have hnc58 := NB250_248.out
                have hcz59_0 : wr.cell? ⟨gb248, 0, none⟩ = some (.int .u64 a1_0) := (blk_cell BK248.out 0).trans rfl
                have hcz59_1 : wr.cell? ⟨gb248, 1, none⟩ = some (.int .u64 a1_1) := (blk_cell BK248.out 1).trans rfl
                have hfz59_0 := blk_frozen BK248.out 0
                have hfz59_1 := blk_frozen BK248.out 1
                have hnb60 := NB250_249.out
                have hnc60 := NB249_250.out
                have hcz61_0 : wr.cell? ⟨gb250, 0, none⟩ = some (.int .u64 x251000_1) := (blk_cell BK250.out 0).trans rfl
                have hcz61_1 : wr.cell? ⟨gb250, 1, none⟩ = some (.int .u64 x251001_1) := (blk_cell BK250.out 1).trans rfl
                have hfz61_0 := blk_frozen BK250.out 0
                have hfz61_1 := blk_frozen BK250.out 1
                go_wp2
                go_roundg k1
                case measure => have := HK1.out; omega
                case rel => exact ⟨(IntKind.u64.wrap (x6_1 + 1)), (x251000_1), (Go.bits .or .u64 x251001_1 (ji52)), (by first | rfl | (simp; done) | (simp [*]; done)), H', ⟨by have := HK1.out; omega⟩, ⟨by (with_reducible repeat (first | apply bN_10 | apply bD_10 | apply bA_10)); refine blk_far ?_ NB247_250.out _; (with_reducible repeat (first | apply bN_10 | apply bD_10 | apply bA_10)); exact BK247.out⟩, ⟨by (with_reducible repeat (first | apply bN_10 | apply bD_10 | apply bA_10)); refine blk_far ?_ NB248_250.out _; (with_reducible repeat (first | apply bN_10 | apply bD_10 | apply bA_10)); exact BK248.out⟩, ⟨by (with_reducible repeat (first | apply bN_10 | apply bD_10 | apply bA_10)); refine blk_far ?_ NB249_250.out _; (with_reducible repeat (first | apply bN_10 | apply bD_10 | apply bA_10)); exact BK249.out⟩, ⟨by (with_reducible repeat (first | apply bN_10 | apply bD_10 | apply bA_10)); refine blk_put (cs := #[.int .u64 x251000_1, .int .u64 x251001_1]) ?_ 1 _ rfl; (with_reducible repeat (first | apply bN_10 | apply bD_10 | apply bA_10)); exact BK250.out⟩, ⟨by repeat (first | (with_reducible first | exact HB.out | apply lA_10 | apply lN_10 | apply lD_10 | refine lS_10 ?_ GE247.out | refine lS_10 ?_ GE248.out | refine lS_10 ?_ GE249.out | refine lS_10 ?_ GE250.out) | exact HB.out)⟩⟩
        · rw [if_neg c8] at H
          exact absurd H (by simp)
      · rw [if_neg c7] at H
        have c7b0 : decide (x6_1 < 64) = false := decide_eq_false c7
        clear c7
        simp only [Option.some.injEq, Prod.mk.injEq] at H
        obtain ⟨rfl, rfl⟩ := H
        have hnb62 := NB250_247.out
        have hnc62 := NB247_250.out
        have hnb63 := NB250_248.out
        have hnc63 := NB248_250.out
        have hnb64 := NB250_249.out
        have hnc64 := NB249_250.out
        have hcz65_0 : wr.cell? ⟨gb250, 0, none⟩ = some (.int .u64 x251000_1) := (blk_cell BK250.out 0).trans rfl
        have hcz65_1 : wr.cell? ⟨gb250, 1, none⟩ = some (.int .u64 x251001_1) := (blk_cell BK250.out 1).trans rfl
        have hfz65_0 := blk_frozen BK250.out 0
        have hfz65_1 := blk_frozen BK250.out 1
        have hnb66 := NB249_247.out
        have hnc66 := NB247_249.out
        have hnb67 := NB249_248.out
        have hnc67 := NB248_249.out
        have hcz68_0 : wr.cell? ⟨gb249, 0, none⟩ = some (.int .u64 0) := (blk_cell BK249.out 0).trans rfl
        have hcz68_1 : wr.cell? ⟨gb249, 1, none⟩ = some (.int .u64 0) := (blk_cell BK249.out 1).trans rfl
        have hfz68_0 := blk_frozen BK249.out 0
        have hfz68_1 := blk_frozen BK249.out 1
        go_wp2
        refine bodyPost_ret (results_cell_row rfl _ _ gb249 24 #[.int .u64 x251000_1, .int .u64 x251001_1] (0, 0) _ rfl (by (with_reducible repeat (first | apply bN_10 | apply bD_10 | apply bA_10)); refine blk_put (cs := #[.int .u64 x251000_1, .int .u64 0]) ?_ 1 _ rfl; (with_reducible repeat (first | apply bN_10 | apply bD_10 | apply bA_10)); refine blk_put (cs := #[.int .u64 0, .int .u64 0]) ?_ 0 _ rfl; (with_reducible repeat (first | apply bN_10 | apply bD_10 | apply bA_10)); exact BK249.out) Try.underlying24 rfl (by kernel_rfl)) rfl ?_
        exact ⟨by first | rfl | (simp [errW_none, errW_some] <;> rfl) | (simp [*, errW_none, errW_some] <;> rfl), by repeat (first | (with_reducible first | exact HB.out | apply lA_10 | apply lN_10 | apply lD_10 | refine lS_10 ?_ GE247.out | refine lS_10 ?_ GE248.out | refine lS_10 ?_ GE249.out | refine lS_10 ?_ GE250.out) | exact HB.out)⟩

/-! ### lockgateref03_And: function 38 -/
def lockgateref03_And.f (a0_0 : Int) (a0_1 : Int) (a1_0 : Int) (a1_1 : Int) : Option (Int × Int) := some (Go.bits .and .u64 a0_0 a1_0, Go.bits .andNot .u64 (Go.bits .and .u64 (Go.bits .or .u64 a0_0 a0_1) (Go.bits .or .u64 a1_0 a1_1)) (Go.bits .and .u64 a0_0 a1_0))
set_option maxHeartbeats 8000000 in
set_option maxRecDepth 100000 in
theorem lockgateref03_And.calls (a0_0 : Int) (a0_1 : Int) (a1_0 : Int) (a1_1 : Int) (r1 : Int) (r2 : Int) (w : World) (h : lockgateref03_And.f a0_0 a0_1 a1_0 a1_1 = some (r1, r2)) :
    Calls Try.prog 38 #[.agg #[.int .u64 a0_0, .int .u64 a0_1], .agg #[.int .u64 a1_0, .int .u64 a1_1]] w fun e w' => e = .returned (.agg #[.int .u64 r1, .int .u64 r2]) ∧ Below w.heap.size w w' := by
  have hu24 := Try.underlying24
  have HB := Aside0.mk (Below.refl w.heap.size w)
  have H : (some (Go.bits .and .u64 a0_0 a1_0, Go.bits .andNot .u64 (Go.bits .and .u64 (Go.bits .or .u64 a0_0 a0_1) (Go.bits .or .u64 a1_0 a1_1)) (Go.bits .and .u64 a0_0 a1_0))) = some (r1, r2) := h
  clear h
  simp only [Option.some.injEq, Prod.mk.injEq] at H
  obtain ⟨rfl, rfl⟩ := H
  go_enter Try.func38, Try.ntmps38
  go_wp2_with (first | ((with_reducible refine gate_dst (N := 2) rfl ?_); refine box_event ?hg (N := 2) ?hd (cs := #[.int .u64 a0_0, .int .u64 a0_1]) (t := 24) ?hr ?_; (case hd => rfl); (case hg => rfl); (case hr => first | (go_simp; done) | (go_simp; rfl)); intro gb388 hg w3 hbox hb; have n0_ := Aside0.mk (below_step (by repeat (first | (with_reducible first | exact HB.out | apply lA_10 | apply lN_10 | apply lD_10) | exact HB.out)) hb); have n1_ := Aside0.mk (hbox); have n2_ := Aside0.mk ((by rw [hg]; exact (below_size (by repeat (first | (with_reducible first | exact HB.out | apply lA_10 | apply lN_10 | apply lD_10) | exact HB.out))) : w.heap.size ≤ gb388)); have n3_ := Aside0.mk ((by rw [hg]; exact (below_size (by repeat (first | (with_reducible first | exact HB.out | apply lA_10 | apply lN_10 | apply lD_10) | exact HB.out))) : w.heap.size ≤ gb388)); clear HB; have HB := n0_; have BK388 := n1_; have GW388 := n2_; have GE388 := n3_; clear n0_ n1_ n2_ n3_; clear hb hbox hg) | ((with_reducible refine gate_dst (N := 3) rfl ?_); refine box_event ?hg (N := 3) ?hd (cs := #[.int .u64 a1_0, .int .u64 a1_1]) (t := 24) ?hr ?_; (case hd => rfl); (case hg => rfl); (case hr => first | (go_simp; done) | (go_simp; rfl)); intro gb389 hg w4 hbox hb; have n0_ := Aside0.mk (blk_below (g := gb388) (o := .cells #[.int .u64 a0_0, .int .u64 a0_1] 24 (0, 0)) (by (with_reducible repeat (first | apply bN_10 | apply bD_10 | apply bA_10)); exact BK388.out) hb); have n1_ := Aside0.mk (below_step (by repeat (first | (with_reducible first | exact HB.out | apply lA_10 | apply lN_10 | apply lD_10 | refine lS_10 ?_ GE388.out) | exact HB.out)) hb); have n2_ := Aside0.mk (hbox); have n3_ := Aside0.mk ((by rw [hg]; exact (below_size (by repeat (first | (with_reducible first | exact HB.out | apply lA_10 | apply lN_10 | apply lD_10 | refine lS_10 ?_ GE388.out) | exact HB.out))) : w.heap.size ≤ gb389)); have n4_ := Aside0.mk ((by rw [hg]; exact (below_size (by repeat (first | (with_reducible first | exact HB.out | apply lA_10 | apply lN_10 | apply lD_10 | refine lS_10 ?_ GE388.out) | exact HB.out))) : w.heap.size ≤ gb389)); have n5_ := Aside0.mk ((by rw [hg]; exact Nat.ne_of_lt (blk_lt (g := gb388) (o := .cells #[.int .u64 a0_0, .int .u64 a0_1] 24 (0, 0)) (by (with_reducible repeat (first | apply bN_10 | apply bD_10 | apply bA_10)); exact BK388.out)) : gb388 ≠ gb389)); have n6_ := Aside0.mk ((by rw [hg]; exact Nat.ne_of_gt (blk_lt (g := gb388) (o := .cells #[.int .u64 a0_0, .int .u64 a0_1] 24 (0, 0)) (by (with_reducible repeat (first | apply bN_10 | apply bD_10 | apply bA_10)); exact BK388.out)) : gb389 ≠ gb388)); clear BK388; clear HB; have BK388 := n0_; have HB := n1_; have BK389 := n2_; have GW389 := n3_; have GE389 := n4_; have NB388_389 := n5_; have NB389_388 := n6_; clear n0_ n1_ n2_ n3_ n4_ n5_ n6_; clear hb hbox hg) | ((with_reducible refine gate_dst (N := 4) rfl ?_); refine box_event ?hg (N := 4) ?hd (cs := #[.int .u64 0, .int .u64 0]) (t := 24) ?hr ?_; (case hd => rfl); (case hg => rfl); (case hr => first | (go_simp; done) | (go_simp; rfl)); intro gb390 hg w5 hbox hb; have n0_ := Aside0.mk (blk_below (g := gb388) (o := .cells #[.int .u64 a0_0, .int .u64 a0_1] 24 (0, 0)) (by (with_reducible repeat (first | apply bN_10 | apply bD_10 | apply bA_10)); exact BK388.out) hb); have n1_ := Aside0.mk (blk_below (g := gb389) (o := .cells #[.int .u64 a1_0, .int .u64 a1_1] 24 (0, 0)) (by (with_reducible repeat (first | apply bN_10 | apply bD_10 | apply bA_10)); exact BK389.out) hb); have n2_ := Aside0.mk (below_step (by repeat (first | (with_reducible first | exact HB.out | apply lA_10 | apply lN_10 | apply lD_10 | refine lS_10 ?_ GE388.out | refine lS_10 ?_ GE389.out) | exact HB.out)) hb); have n3_ := Aside0.mk (hbox); have n4_ := Aside0.mk ((by rw [hg]; exact (below_size (by repeat (first | (with_reducible first | exact HB.out | apply lA_10 | apply lN_10 | apply lD_10 | refine lS_10 ?_ GE388.out | refine lS_10 ?_ GE389.out) | exact HB.out))) : w.heap.size ≤ gb390)); have n5_ := Aside0.mk ((by rw [hg]; exact (below_size (by repeat (first | (with_reducible first | exact HB.out | apply lA_10 | apply lN_10 | apply lD_10 | refine lS_10 ?_ GE388.out | refine lS_10 ?_ GE389.out) | exact HB.out))) : w.heap.size ≤ gb390)); have n6_ := Aside0.mk ((by rw [hg]; exact Nat.ne_of_lt (blk_lt (g := gb388) (o := .cells #[.int .u64 a0_0, .int .u64 a0_1] 24 (0, 0)) (by (with_reducible repeat (first | apply bN_10 | apply bD_10 | apply bA_10)); exact BK388.out)) : gb388 ≠ gb390)); have n7_ := Aside0.mk ((by rw [hg]; exact Nat.ne_of_gt (blk_lt (g := gb388) (o := .cells #[.int .u64 a0_0, .int .u64 a0_1] 24 (0, 0)) (by (with_reducible repeat (first | apply bN_10 | apply bD_10 | apply bA_10)); exact BK388.out)) : gb390 ≠ gb388)); have n8_ := Aside0.mk ((by rw [hg]; exact Nat.ne_of_lt (blk_lt (g := gb389) (o := .cells #[.int .u64 a1_0, .int .u64 a1_1] 24 (0, 0)) (by (with_reducible repeat (first | apply bN_10 | apply bD_10 | apply bA_10)); exact BK389.out)) : gb389 ≠ gb390)); have n9_ := Aside0.mk ((by rw [hg]; exact Nat.ne_of_gt (blk_lt (g := gb389) (o := .cells #[.int .u64 a1_0, .int .u64 a1_1] 24 (0, 0)) (by (with_reducible repeat (first | apply bN_10 | apply bD_10 | apply bA_10)); exact BK389.out)) : gb390 ≠ gb389)); clear BK388; clear BK389; clear HB; have BK388 := n0_; have BK389 := n1_; have HB := n2_; have BK390 := n3_; have GW390 := n4_; have GE390 := n5_; have NB388_390 := n6_; have NB390_388 := n7_; have NB389_390 := n8_; have NB390_389 := n9_; clear n0_ n1_ n2_ n3_ n4_ n5_ n6_ n7_ n8_ n9_; clear hb hbox hg; have hnb6 := NB388_389.out; have hnc6 := NB389_388.out; have hnb7 := NB388_390.out; have hnc7 := NB390_388.out; have hcz8_0 : w5.cell? ⟨gb388, 0, none⟩ = some (.int .u64 a0_0) := (blk_cell BK388.out 0).trans rfl; have hcz8_1 : w5.cell? ⟨gb388, 1, none⟩ = some (.int .u64 a0_1) := (blk_cell BK388.out 1).trans rfl; have hfz8_0 := blk_frozen BK388.out 0; have hfz8_1 := blk_frozen BK388.out 1; have hnb9 := NB389_390.out; have hnc9 := NB390_389.out; have hcz10_0 : w5.cell? ⟨gb389, 0, none⟩ = some (.int .u64 a1_0) := (blk_cell BK389.out 0).trans rfl; have hcz10_1 : w5.cell? ⟨gb389, 1, none⟩ = some (.int .u64 a1_1) := (blk_cell BK389.out 1).trans rfl; have hfz10_0 := blk_frozen BK389.out 0; have hfz10_1 := blk_frozen BK389.out 1; have hcz11_0 : w5.cell? ⟨gb390, 0, none⟩ = some (.int .u64 0) := (blk_cell BK390.out 0).trans rfl; have hcz11_1 : w5.cell? ⟨gb390, 1, none⟩ = some (.int .u64 0) := (blk_cell BK390.out 1).trans rfl; have hfz11_0 := blk_frozen BK390.out 0; have hfz11_1 := blk_frozen BK390.out 1))
  refine bodyPost_ret (results_cell_row rfl _ _ gb390 24 #[.int .u64 (Go.bits .and .u64 a0_0 a1_0), .int .u64 (Go.bits .andNot .u64 (Go.bits .and .u64 (Go.bits .or .u64 a0_0 a0_1) (Go.bits .or .u64 a1_0 a1_1)) (Go.bits .and .u64 a0_0 a1_0))] (0, 0) _ rfl (by (with_reducible repeat (first | apply bN_10 | apply bD_10 | apply bA_10)); refine blk_put (cs := #[.int .u64 (Go.bits .and .u64 a0_0 a1_0), .int .u64 0]) ?_ 1 _ rfl; (with_reducible repeat (first | apply bN_10 | apply bD_10 | apply bA_10)); refine blk_put (cs := #[.int .u64 0, .int .u64 0]) ?_ 0 _ rfl; (with_reducible repeat (first | apply bN_10 | apply bD_10 | apply bA_10)); exact BK390.out) Try.underlying24 rfl (by kernel_rfl)) rfl ?_
  exact ⟨by first | rfl | (simp [errW_none, errW_some] <;> rfl) | (simp [*, errW_none, errW_some] <;> rfl), by repeat (first | (with_reducible first | exact HB.out | apply lA_10 | apply lN_10 | apply lD_10 | refine lS_10 ?_ GE388.out | refine lS_10 ?_ GE389.out | refine lS_10 ?_ GE390.out) | exact HB.out)⟩

/-! ### lockgateref03_Or: function 39 -/
def lockgateref03_Or.f (a0_0 : Int) (a0_1 : Int) (a1_0 : Int) (a1_1 : Int) : Option (Int × Int) := some (Go.bits .or .u64 a0_0 a1_0, Go.bits .andNot .u64 (Go.bits .or .u64 a0_1 a1_1) (Go.bits .or .u64 a0_0 a1_0))
set_option maxHeartbeats 8000000 in
set_option maxRecDepth 100000 in
theorem lockgateref03_Or.calls (a0_0 : Int) (a0_1 : Int) (a1_0 : Int) (a1_1 : Int) (r1 : Int) (r2 : Int) (w : World) (h : lockgateref03_Or.f a0_0 a0_1 a1_0 a1_1 = some (r1, r2)) :
    Calls Try.prog 39 #[.agg #[.int .u64 a0_0, .int .u64 a0_1], .agg #[.int .u64 a1_0, .int .u64 a1_1]] w fun e w' => e = .returned (.agg #[.int .u64 r1, .int .u64 r2]) ∧ Below w.heap.size w w' := by
  have hu24 := Try.underlying24
  have HB := Aside0.mk (Below.refl w.heap.size w)
  have H : (some (Go.bits .or .u64 a0_0 a1_0, Go.bits .andNot .u64 (Go.bits .or .u64 a0_1 a1_1) (Go.bits .or .u64 a0_0 a1_0))) = some (r1, r2) := h
  clear h
  simp only [Option.some.injEq, Prod.mk.injEq] at H
  obtain ⟨rfl, rfl⟩ := H
  go_enter Try.func39, Try.ntmps39
  go_wp2_with (first | ((with_reducible refine gate_dst (N := 2) rfl ?_); refine box_event ?hg (N := 2) ?hd (cs := #[.int .u64 a0_0, .int .u64 a0_1]) (t := 24) ?hr ?_; (case hd => rfl); (case hg => rfl); (case hr => first | (go_simp; done) | (go_simp; rfl)); intro gb391 hg w3 hbox hb; have n0_ := Aside0.mk (below_step (by repeat (first | (with_reducible first | exact HB.out | apply lA_10 | apply lN_10 | apply lD_10) | exact HB.out)) hb); have n1_ := Aside0.mk (hbox); have n2_ := Aside0.mk ((by rw [hg]; exact (below_size (by repeat (first | (with_reducible first | exact HB.out | apply lA_10 | apply lN_10 | apply lD_10) | exact HB.out))) : w.heap.size ≤ gb391)); have n3_ := Aside0.mk ((by rw [hg]; exact (below_size (by repeat (first | (with_reducible first | exact HB.out | apply lA_10 | apply lN_10 | apply lD_10) | exact HB.out))) : w.heap.size ≤ gb391)); clear HB; have HB := n0_; have BK391 := n1_; have GW391 := n2_; have GE391 := n3_; clear n0_ n1_ n2_ n3_; clear hb hbox hg) | ((with_reducible refine gate_dst (N := 3) rfl ?_); refine box_event ?hg (N := 3) ?hd (cs := #[.int .u64 a1_0, .int .u64 a1_1]) (t := 24) ?hr ?_; (case hd => rfl); (case hg => rfl); (case hr => first | (go_simp; done) | (go_simp; rfl)); intro gb392 hg w4 hbox hb; have n0_ := Aside0.mk (blk_below (g := gb391) (o := .cells #[.int .u64 a0_0, .int .u64 a0_1] 24 (0, 0)) (by (with_reducible repeat (first | apply bN_10 | apply bD_10 | apply bA_10)); exact BK391.out) hb); have n1_ := Aside0.mk (below_step (by repeat (first | (with_reducible first | exact HB.out | apply lA_10 | apply lN_10 | apply lD_10 | refine lS_10 ?_ GE391.out) | exact HB.out)) hb); have n2_ := Aside0.mk (hbox); have n3_ := Aside0.mk ((by rw [hg]; exact (below_size (by repeat (first | (with_reducible first | exact HB.out | apply lA_10 | apply lN_10 | apply lD_10 | refine lS_10 ?_ GE391.out) | exact HB.out))) : w.heap.size ≤ gb392)); have n4_ := Aside0.mk ((by rw [hg]; exact (below_size (by repeat (first | (with_reducible first | exact HB.out | apply lA_10 | apply lN_10 | apply lD_10 | refine lS_10 ?_ GE391.out) | exact HB.out))) : w.heap.size ≤ gb392)); have n5_ := Aside0.mk ((by rw [hg]; exact Nat.ne_of_lt (blk_lt (g := gb391) (o := .cells #[.int .u64 a0_0, .int .u64 a0_1] 24 (0, 0)) (by (with_reducible repeat (first | apply bN_10 | apply bD_10 | apply bA_10)); exact BK391.out)) : gb391 ≠ gb392)); have n6_ := Aside0.mk ((by rw [hg]; exact Nat.ne_of_gt (blk_lt (g := gb391) (o := .cells #[.int .u64 a0_0, .int .u64 a0_1] 24 (0, 0)) (by (with_reducible repeat (first | apply bN_10 | apply bD_10 | apply bA_10)); exact BK391.out)) : gb392 ≠ gb391)); clear BK391; clear HB; have BK391 := n0_; have HB := n1_; have BK392 := n2_; have GW392 := n3_; have GE392 := n4_; have NB391_392 := n5_; have NB392_391 := n6_; clear n0_ n1_ n2_ n3_ n4_ n5_ n6_; clear hb hbox hg) | ((with_reducible refine gate_dst (N := 4) rfl ?_); refine box_event ?hg (N := 4) ?hd (cs := #[.int .u64 0, .int .u64 0]) (t := 24) ?hr ?_; (case hd => rfl); (case hg => rfl); (case hr => first | (go_simp; done) | (go_simp; rfl)); intro gb393 hg w5 hbox hb; have n0_ := Aside0.mk (blk_below (g := gb391) (o := .cells #[.int .u64 a0_0, .int .u64 a0_1] 24 (0, 0)) (by (with_reducible repeat (first | apply bN_10 | apply bD_10 | apply bA_10)); exact BK391.out) hb); have n1_ := Aside0.mk (blk_below (g := gb392) (o := .cells #[.int .u64 a1_0, .int .u64 a1_1] 24 (0, 0)) (by (with_reducible repeat (first | apply bN_10 | apply bD_10 | apply bA_10)); exact BK392.out) hb); have n2_ := Aside0.mk (below_step (by repeat (first | (with_reducible first | exact HB.out | apply lA_10 | apply lN_10 | apply lD_10 | refine lS_10 ?_ GE391.out | refine lS_10 ?_ GE392.out) | exact HB.out)) hb); have n3_ := Aside0.mk (hbox); have n4_ := Aside0.mk ((by rw [hg]; exact (below_size (by repeat (first | (with_reducible first | exact HB.out | apply lA_10 | apply lN_10 | apply lD_10 | refine lS_10 ?_ GE391.out | refine lS_10 ?_ GE392.out) | exact HB.out))) : w.heap.size ≤ gb393)); have n5_ := Aside0.mk ((by rw [hg]; exact (below_size (by repeat (first | (with_reducible first | exact HB.out | apply lA_10 | apply lN_10 | apply lD_10 | refine lS_10 ?_ GE391.out | refine lS_10 ?_ GE392.out) | exact HB.out))) : w.heap.size ≤ gb393)); have n6_ := Aside0.mk ((by rw [hg]; exact Nat.ne_of_lt (blk_lt (g := gb391) (o := .cells #[.int .u64 a0_0, .int .u64 a0_1] 24 (0, 0)) (by (with_reducible repeat (first | apply bN_10 | apply bD_10 | apply bA_10)); exact BK391.out)) : gb391 ≠ gb393)); have n7_ := Aside0.mk ((by rw [hg]; exact Nat.ne_of_gt (blk_lt (g := gb391) (o := .cells #[.int .u64 a0_0, .int .u64 a0_1] 24 (0, 0)) (by (with_reducible repeat (first | apply bN_10 | apply bD_10 | apply bA_10)); exact BK391.out)) : gb393 ≠ gb391)); have n8_ := Aside0.mk ((by rw [hg]; exact Nat.ne_of_lt (blk_lt (g := gb392) (o := .cells #[.int .u64 a1_0, .int .u64 a1_1] 24 (0, 0)) (by (with_reducible repeat (first | apply bN_10 | apply bD_10 | apply bA_10)); exact BK392.out)) : gb392 ≠ gb393)); have n9_ := Aside0.mk ((by rw [hg]; exact Nat.ne_of_gt (blk_lt (g := gb392) (o := .cells #[.int .u64 a1_0, .int .u64 a1_1] 24 (0, 0)) (by (with_reducible repeat (first | apply bN_10 | apply bD_10 | apply bA_10)); exact BK392.out)) : gb393 ≠ gb392)); clear BK391; clear BK392; clear HB; have BK391 := n0_; have BK392 := n1_; have HB := n2_; have BK393 := n3_; have GW393 := n4_; have GE393 := n5_; have NB391_393 := n6_; have NB393_391 := n7_; have NB392_393 := n8_; have NB393_392 := n9_; clear n0_ n1_ n2_ n3_ n4_ n5_ n6_ n7_ n8_ n9_; clear hb hbox hg; have hnb6 := NB391_392.out; have hnc6 := NB392_391.out; have hnb7 := NB391_393.out; have hnc7 := NB393_391.out; have hcz8_0 : w5.cell? ⟨gb391, 0, none⟩ = some (.int .u64 a0_0) := (blk_cell BK391.out 0).trans rfl; have hcz8_1 : w5.cell? ⟨gb391, 1, none⟩ = some (.int .u64 a0_1) := (blk_cell BK391.out 1).trans rfl; have hfz8_0 := blk_frozen BK391.out 0; have hfz8_1 := blk_frozen BK391.out 1; have hnb9 := NB392_393.out; have hnc9 := NB393_392.out; have hcz10_0 : w5.cell? ⟨gb392, 0, none⟩ = some (.int .u64 a1_0) := (blk_cell BK392.out 0).trans rfl; have hcz10_1 : w5.cell? ⟨gb392, 1, none⟩ = some (.int .u64 a1_1) := (blk_cell BK392.out 1).trans rfl; have hfz10_0 := blk_frozen BK392.out 0; have hfz10_1 := blk_frozen BK392.out 1; have hcz11_0 : w5.cell? ⟨gb393, 0, none⟩ = some (.int .u64 0) := (blk_cell BK393.out 0).trans rfl; have hcz11_1 : w5.cell? ⟨gb393, 1, none⟩ = some (.int .u64 0) := (blk_cell BK393.out 1).trans rfl; have hfz11_0 := blk_frozen BK393.out 0; have hfz11_1 := blk_frozen BK393.out 1))
  refine bodyPost_ret (results_cell_row rfl _ _ gb393 24 #[.int .u64 (Go.bits .or .u64 a0_0 a1_0), .int .u64 (Go.bits .andNot .u64 (Go.bits .or .u64 a0_1 a1_1) (Go.bits .or .u64 a0_0 a1_0))] (0, 0) _ rfl (by (with_reducible repeat (first | apply bN_10 | apply bD_10 | apply bA_10)); refine blk_put (cs := #[.int .u64 (Go.bits .or .u64 a0_0 a1_0), .int .u64 0]) ?_ 1 _ rfl; (with_reducible repeat (first | apply bN_10 | apply bD_10 | apply bA_10)); refine blk_put (cs := #[.int .u64 0, .int .u64 0]) ?_ 0 _ rfl; (with_reducible repeat (first | apply bN_10 | apply bD_10 | apply bA_10)); exact BK393.out) Try.underlying24 rfl (by kernel_rfl)) rfl ?_
  exact ⟨by first | rfl | (simp [errW_none, errW_some] <;> rfl) | (simp [*, errW_none, errW_some] <;> rfl), by repeat (first | (with_reducible first | exact HB.out | apply lA_10 | apply lN_10 | apply lD_10 | refine lS_10 ?_ GE391.out | refine lS_10 ?_ GE392.out | refine lS_10 ?_ GE393.out) | exact HB.out)⟩

/-! ### lockgateref03_Xor: function 40 -/
def lockgateref03_Xor.f (a0_0 : Int) (a0_1 : Int) (a1_0 : Int) (a1_1 : Int) : Option (Int × Int) := (lockgateref03_without.f (Go.bits .xor .u64 a0_0 a1_0) (Go.bits .or .u64 a0_1 a1_1)).bind fun bt397 => (some (bt397.1, bt397.2))
set_option maxHeartbeats 8000000 in
set_option maxRecDepth 100000 in
theorem lockgateref03_Xor.calls (a0_0 : Int) (a0_1 : Int) (a1_0 : Int) (a1_1 : Int) (r1 : Int) (r2 : Int) (w : World) (h : lockgateref03_Xor.f a0_0 a0_1 a1_0 a1_1 = some (r1, r2)) :
    Calls Try.prog 40 #[.agg #[.int .u64 a0_0, .int .u64 a0_1], .agg #[.int .u64 a1_0, .int .u64 a1_1]] w fun e w' => e = .returned (.agg #[.int .u64 r1, .int .u64 r2]) ∧ Below w.heap.size w w' := by
  have hu24 := Try.underlying24
  have HB := Aside0.mk (Below.refl w.heap.size w)
  have H : ((lockgateref03_without.f (Go.bits .xor .u64 a0_0 a1_0) (Go.bits .or .u64 a0_1 a1_1)).bind fun bt397 => (some (bt397.1, bt397.2))) = some (r1, r2) := h
  clear h
  replace H := Option.bind_eq_some_iff.mp H
  obtain ⟨⟨t397, t398⟩, A30, H⟩ := H
  replace H : (some (t397, t398)) = some (r1, r2) := H
  have A3 := Aside0.mk A30
  clear A30
  simp only [Option.some.injEq, Prod.mk.injEq] at H
  obtain ⟨rfl, rfl⟩ := H
  go_enter Try.func40, Try.ntmps40
  go_wp2_with (first | ((with_reducible refine gate_dst (N := 2) rfl ?_); refine box_event ?hg (N := 2) ?hd (cs := #[.int .u64 a0_0, .int .u64 a0_1]) (t := 24) ?hr ?_; (case hd => rfl); (case hg => rfl); (case hr => first | (go_simp; done) | (go_simp; rfl)); intro gb394 hg w4 hbox hb; have n0_ := Aside0.mk (below_step (by repeat (first | (with_reducible first | exact HB.out | apply lA_10 | apply lN_10 | apply lD_10) | exact HB.out)) hb); have n1_ := Aside0.mk (hbox); have n2_ := Aside0.mk ((by rw [hg]; exact (below_size (by repeat (first | (with_reducible first | exact HB.out | apply lA_10 | apply lN_10 | apply lD_10) | exact HB.out))) : w.heap.size ≤ gb394)); have n3_ := Aside0.mk ((by rw [hg]; exact (below_size (by repeat (first | (with_reducible first | exact HB.out | apply lA_10 | apply lN_10 | apply lD_10) | exact HB.out))) : w.heap.size ≤ gb394)); clear HB; have HB := n0_; have BK394 := n1_; have GW394 := n2_; have GE394 := n3_; clear n0_ n1_ n2_ n3_; clear hb hbox hg) | ((with_reducible refine gate_dst (N := 3) rfl ?_); refine box_event ?hg (N := 3) ?hd (cs := #[.int .u64 a1_0, .int .u64 a1_1]) (t := 24) ?hr ?_; (case hd => rfl); (case hg => rfl); (case hr => first | (go_simp; done) | (go_simp; rfl)); intro gb395 hg w5 hbox hb; have n0_ := Aside0.mk (blk_below (g := gb394) (o := .cells #[.int .u64 a0_0, .int .u64 a0_1] 24 (0, 0)) (by (with_reducible repeat (first | apply bN_10 | apply bD_10 | apply bA_10)); exact BK394.out) hb); have n1_ := Aside0.mk (below_step (by repeat (first | (with_reducible first | exact HB.out | apply lA_10 | apply lN_10 | apply lD_10 | refine lS_10 ?_ GE394.out) | exact HB.out)) hb); have n2_ := Aside0.mk (hbox); have n3_ := Aside0.mk ((by rw [hg]; exact (below_size (by repeat (first | (with_reducible first | exact HB.out | apply lA_10 | apply lN_10 | apply lD_10 | refine lS_10 ?_ GE394.out) | exact HB.out))) : w.heap.size ≤ gb395)); have n4_ := Aside0.mk ((by rw [hg]; exact (below_size (by repeat (first | (with_reducible first | exact HB.out | apply lA_10 | apply lN_10 | apply lD_10 | refine lS_10 ?_ GE394.out) | exact HB.out))) : w.heap.size ≤ gb395)); have n5_ := Aside0.mk ((by rw [hg]; exact Nat.ne_of_lt (blk_lt (g := gb394) (o := .cells #[.int .u64 a0_0, .int .u64 a0_1] 24 (0, 0)) (by (with_reducible repeat (first | apply bN_10 | apply bD_10 | apply bA_10)); exact BK394.out)) : gb394 ≠ gb395)); have n6_ := Aside0.mk ((by rw [hg]; exact Nat.ne_of_gt (blk_lt (g := gb394) (o := .cells #[.int .u64 a0_0, .int .u64 a0_1] 24 (0, 0)) (by (with_reducible repeat (first | apply bN_10 | apply bD_10 | apply bA_10)); exact BK394.out)) : gb395 ≠ gb394)); clear BK394; clear HB; have BK394 := n0_; have HB := n1_; have BK395 := n2_; have GW395 := n3_; have GE395 := n4_; have NB394_395 := n5_; have NB395_394 := n6_; clear n0_ n1_ n2_ n3_ n4_ n5_ n6_; clear hb hbox hg) | ((with_reducible refine gate_dst (N := 4) rfl ?_); refine box_event ?hg (N := 4) ?hd (cs := #[.int .u64 0, .int .u64 0]) (t := 24) ?hr ?_; (case hd => rfl); (case hg => rfl); (case hr => first | (go_simp; done) | (go_simp; rfl)); intro gb396 hg w6 hbox hb; have n0_ := Aside0.mk (blk_below (g := gb394) (o := .cells #[.int .u64 a0_0, .int .u64 a0_1] 24 (0, 0)) (by (with_reducible repeat (first | apply bN_10 | apply bD_10 | apply bA_10)); exact BK394.out) hb); have n1_ := Aside0.mk (blk_below (g := gb395) (o := .cells #[.int .u64 a1_0, .int .u64 a1_1] 24 (0, 0)) (by (with_reducible repeat (first | apply bN_10 | apply bD_10 | apply bA_10)); exact BK395.out) hb); have n2_ := Aside0.mk (below_step (by repeat (first | (with_reducible first | exact HB.out | apply lA_10 | apply lN_10 | apply lD_10 | refine lS_10 ?_ GE394.out | refine lS_10 ?_ GE395.out) | exact HB.out)) hb); have n3_ := Aside0.mk (hbox); have n4_ := Aside0.mk ((by rw [hg]; exact (below_size (by repeat (first | (with_reducible first | exact HB.out | apply lA_10 | apply lN_10 | apply lD_10 | refine lS_10 ?_ GE394.out | refine lS_10 ?_ GE395.out) | exact HB.out))) : w.heap.size ≤ gb396)); have n5_ := Aside0.mk ((by rw [hg]; exact (below_size (by repeat (first | (with_reducible first | exact HB.out | apply lA_10 | apply lN_10 | apply lD_10 | refine lS_10 ?_ GE394.out | refine lS_10 ?_ GE395.out) | exact HB.out))) : w.heap.size ≤ gb396)); have n6_ := Aside0.mk ((by rw [hg]; exact Nat.ne_of_lt (blk_lt (g := gb394) (o := .cells #[.int .u64 a0_0, .int .u64 a0_1] 24 (0, 0)) (by (with_reducible repeat (first | apply bN_10 | apply bD_10 | apply bA_10)); exact BK394.out)) : gb394 ≠ gb396)); have n7_ := Aside0.mk ((by rw [hg]; exact Nat.ne_of_gt (blk_lt (g := gb394) (o := .cells #[.int .u64 a0_0, .int .u64 a0_1] 24 (0, 0)) (by (with_reducible repeat (first | apply bN_10 | apply bD_10 | apply bA_10)); exact BK394.out)) : gb396 ≠ gb394)); have n8_ := Aside0.mk ((by rw [hg]; exact Nat.ne_of_lt (blk_lt (g := gb395) (o := .cells #[.int .u64 a1_0, .int .u64 a1_1] 24 (0, 0)) (by (with_reducible repeat (first | apply bN_10 | apply bD_10 | apply bA_10)); exact BK395.out)) : gb395 ≠ gb396)); have n9_ := Aside0.mk ((by rw [hg]; exact Nat.ne_of_gt (blk_lt (g := gb395) (o := .cells #[.int .u64 a1_0, .int .u64 a1_1] 24 (0, 0)) (by (with_reducible repeat (first | apply bN_10 | apply bD_10 | apply bA_10)); exact BK395.out)) : gb396 ≠ gb395)); clear BK394; clear BK395; clear HB; have BK394 := n0_; have BK395 := n1_; have HB := n2_; have BK396 := n3_; have GW396 := n4_; have GE396 := n5_; have NB394_396 := n6_; have NB396_394 := n7_; have NB395_396 := n8_; have NB396_395 := n9_; clear n0_ n1_ n2_ n3_ n4_ n5_ n6_ n7_ n8_ n9_; clear hb hbox hg; have hnb7 := NB394_395.out; have hnc7 := NB395_394.out; have hnb8 := NB394_396.out; have hnc8 := NB396_394.out; have hcz9_0 : w6.cell? ⟨gb394, 0, none⟩ = some (.int .u64 a0_0) := (blk_cell BK394.out 0).trans rfl; have hcz9_1 : w6.cell? ⟨gb394, 1, none⟩ = some (.int .u64 a0_1) := (blk_cell BK394.out 1).trans rfl; have hfz9_0 := blk_frozen BK394.out 0; have hfz9_1 := blk_frozen BK394.out 1; have hnb10 := NB395_396.out; have hnc10 := NB396_395.out; have hcz11_0 : w6.cell? ⟨gb395, 0, none⟩ = some (.int .u64 a1_0) := (blk_cell BK395.out 0).trans rfl; have hcz11_1 : w6.cell? ⟨gb395, 1, none⟩ = some (.int .u64 a1_1) := (blk_cell BK395.out 1).trans rfl; have hfz11_0 := blk_frozen BK395.out 0; have hfz11_1 := blk_frozen BK395.out 1) | ((with_reducible refine gate_callee (f := 51) rfl ?_); refine goesL_ (some 15) rfl rfl Try.func51 (by kernel_rfl) rfl #[.int .u64 (Go.bits .xor .u64 a0_0 a1_0), .int .u64 (Go.bits .or .u64 a0_1 a1_1)] rfl (by (try simp only [List.map_toArray, List.map_cons, List.map_nil]); first | done | rfl) ?_; (with_reducible refine (lockgateref03_without.calls (Go.bits .xor .u64 a0_0 a1_0) (Go.bits .or .u64 a0_1 a1_1) t397 t398 _ A3.out).mono ?_); rintro e w12 ⟨rfl, hb⟩; refine ⟨_, rfl, ?_⟩; have n0_ := Aside0.mk (blk_below (g := gb394) (o := .cells #[.int .u64 a0_0, .int .u64 a0_1] 24 (0, 0)) (by (with_reducible repeat (first | apply bN_10 | apply bD_10 | apply bA_10)); exact BK394.out) hb); have n1_ := Aside0.mk (blk_below (g := gb395) (o := .cells #[.int .u64 a1_0, .int .u64 a1_1] 24 (0, 0)) (by (with_reducible repeat (first | apply bN_10 | apply bD_10 | apply bA_10)); exact BK395.out) hb); have n2_ := Aside0.mk (blk_below (g := gb396) (o := .cells #[.int .u64 0, .int .u64 0] 24 (0, 0)) (by (with_reducible repeat (first | apply bN_10 | apply bD_10 | apply bA_10)); exact BK396.out) hb); have n3_ := Aside0.mk (below_step (by repeat (first | (with_reducible first | exact HB.out | apply lA_10 | apply lN_10 | apply lD_10 | refine lS_10 ?_ GE394.out | refine lS_10 ?_ GE395.out | refine lS_10 ?_ GE396.out) | exact HB.out)) hb); clear BK394; clear BK395; clear BK396; clear HB; have BK394 := n0_; have BK395 := n1_; have BK396 := n2_; have HB := n3_; clear n0_ n1_ n2_ n3_; (try clear hb); (try clear hb2); (try clear hk); (try clear hi); have hcz13_0 : w12.cell? ⟨gb396, 0, none⟩ = some (.int .u64 0) := (blk_cell BK396.out 0).trans rfl; have hcz13_1 : w12.cell? ⟨gb396, 1, none⟩ = some (.int .u64 0) := (blk_cell BK396.out 1).trans rfl; have hfz13_0 := blk_frozen BK396.out 0; have hfz13_1 := blk_frozen BK396.out 1))
  refine bodyPost_ret (results_cell_row rfl _ _ gb396 24 #[.int .u64 t397, .int .u64 t398] (0, 0) _ rfl (by (with_reducible repeat (first | apply bN_10 | apply bD_10 | apply bA_10)); refine blk_put (cs := #[.int .u64 t397, .int .u64 0]) ?_ 1 _ rfl; (with_reducible repeat (first | apply bN_10 | apply bD_10 | apply bA_10)); refine blk_put (cs := #[.int .u64 0, .int .u64 0]) ?_ 0 _ rfl; (with_reducible repeat (first | apply bN_10 | apply bD_10 | apply bA_10)); exact BK396.out) Try.underlying24 rfl (by kernel_rfl)) rfl ?_
  exact ⟨by first | rfl | (simp [errW_none, errW_some] <;> rfl) | (simp [*, errW_none, errW_some] <;> rfl), by repeat (first | (with_reducible first | exact HB.out | apply lA_10 | apply lN_10 | apply lD_10 | refine lS_10 ?_ GE394.out | refine lS_10 ?_ GE395.out | refine lS_10 ?_ GE396.out) | exact HB.out)⟩

/-! ### lockgateref03_count: function 52 -/
def lockgateref03_count.f (a0 : Int) (a1 : Int) : Option (Int) := if a1 = 0 then (none) else (if (Int.tmod a0 a1) < 0 then (some (IntKind.u64.wrap (wrap64 ((Int.tmod a0 a1) + a1)))) else (some (IntKind.u64.wrap (Int.tmod a0 a1))))
set_option maxHeartbeats 8000000 in
set_option maxRecDepth 100000 in
theorem lockgateref03_count.calls (a0 : Int) (a1 : Int) (r : Int) (w : World) (h : lockgateref03_count.f a0 a1 = some r) :
    Calls Try.prog 52 #[.int .i64 a0, .int .i64 a1] w fun e w' => e = .returned (.int .u64 r) ∧ Drawn0 w w' := by
  have H : (if a1 = 0 then (none) else (if (Int.tmod a0 a1) < 0 then (some (IntKind.u64.wrap (wrap64 ((Int.tmod a0 a1) + a1)))) else (some (IntKind.u64.wrap (Int.tmod a0 a1))))) = some r := h
  clear h
  by_cases c3 : a1 = 0
  · rw [if_pos c3] at H
    exact absurd H (by simp)
  · rw [if_neg c3] at H
    have c3b0 : (a1 == 0) = false := beq_eq_false_iff_ne.mpr c3
    have c3b1 : (a1 != 0) = true := bne_iff_ne.mpr c3
    by_cases c4 : (Int.tmod a0 a1) < 0
    · rw [if_pos c4] at H
      have c4b0 : decide ((Int.tmod a0 a1) < 0) = true := decide_eq_true c4
      clear c4
      obtain rfl := Option.some.inj H
      go_enter Try.func52, Try.ntmps52
      go_wp2
      go_ret
      exact ⟨by first | rfl | (simp; done) | (simp [*]; done), by repeat (first | exact Drawn0.refl _ | apply Drawn0.step)⟩
    · rw [if_neg c4] at H
      have c4b0 : decide ((Int.tmod a0 a1) < 0) = false := decide_eq_false c4
      clear c4
      obtain rfl := Option.some.inj H
      go_enter Try.func52, Try.ntmps52
      go_wp2
      go_ret
      exact ⟨by first | rfl | (simp; done) | (simp [*]; done), by repeat (first | exact Drawn0.refl _ | apply Drawn0.step)⟩

end Go.Proofs.Ytkmnogcahpbdjaa.PA
