-- PRINTED by print.py (a twelfth state) out of the translation. Not trusted: Lean checks it.
import Derived.Test.YtkmnogcahpbdjaaPA0
namespace Go.Proofs.Ytkmnogcahpbdjaa.PA
open Go.RowKit Go.Proofs.YtkmnogcahpbdjaaW.PrintWords Go.Proofs.YtkmnogcahpbdjaaW.PrintLast Go.Proofs.YtkmnogcahpbdjaaW.PrintMore
attribute [local go_sem] max2_int min2_int max_two min_two max_three min_three max_four min_four   -- for this text's walks alone
set_option linter.defProp false
def bN_8 := @blk_drewN
def bD_8 := @blk_drew
def bA_8 := @blk_alloc
def lA_8 := @below_alloc
def lN_8 := @pw_below_drewN
def lD_8 := @below_drew1
def lS_8 := @below_set
set_option linter.unusedVariables false
set_option linter.unusedSimpArgs false

/-! ### lockgateref03_Meet: function 24 -/
mutual
def lockgateref03_Meet.l0 : Nat → Int → Int → Int → Int → Int → Int → Int → Option (Int × Int × Bool)
  | 0, _, _, _, _, _, _, _ => none
  | k + 1, x7, x235000, x235001, x236000, x236001, x238000, x238001 => if x7 < 64 then (if 0 ≤ x7 then (if (Int.tmod (shr .u64 x235001 x7) 2) = 0 then (if (Int.tmod (shr .u64 x236001 x7) 2) = 0 then (lockgateref03_Meet.j1 k x7 ((Int.tmod (shr .u64 x235001 x7) 2) == 0) ((Int.tmod (shr .u64 x236001 x7) 2) == 0) ((Int.tmod (shr .u64 x235000 x7) 2) != (Int.tmod (shr .u64 x236000 x7) 2)) x235000 x235001 x236000 x236001 x238000 x238001) else (lockgateref03_Meet.j1 k x7 ((Int.tmod (shr .u64 x235001 x7) 2) == 0) ((Int.tmod (shr .u64 x236001 x7) 2) == 0) false x235000 x235001 x236000 x236001 x238000 x238001)) else (lockgateref03_Meet.j1 k x7 ((Int.tmod (shr .u64 x235001 x7) 2) == 0) ((Int.tmod (shr .u64 x236001 x7) 2) == 0) false x235000 x235001 x236000 x236001 x238000 x238001)) else (none)) else (some (x238000, x238001, true))
def lockgateref03_Meet.j1 : Nat → Int → Bool → Bool → Bool → Int → Int → Int → Int → Int → Int → Option (Int × Int × Bool)
  | 0, _, _, _, _, _, _, _, _, _, _ => none
  | k + 1, x7, x8, x9, x42, x235000, x235001, x236000, x236001, x238000, x238001 => if x42 = true then (some (0, 0, false)) else (if x8 = true then (if 0 ≤ x7 then (lockgateref03_Meet.l0 k (IntKind.u64.wrap (x7 + 1)) x235000 x235001 x236000 x236001 (Go.bits .or .u64 x238000 (shl .u64 (Int.tmod (shr .u64 (Go.bits .or .u64 x235000 x236000) x7) 2) x7)) x238001) else (none)) else (if x9 = true then (if 0 ≤ x7 then (lockgateref03_Meet.l0 k (IntKind.u64.wrap (x7 + 1)) x235000 x235001 x236000 x236001 (Go.bits .or .u64 x238000 (shl .u64 (Int.tmod (shr .u64 (Go.bits .or .u64 x235000 x236000) x7) 2) x7)) x238001) else (none)) else (if 0 ≤ x7 then (lockgateref03_Meet.l0 k (IntKind.u64.wrap (x7 + 1)) x235000 x235001 x236000 x236001 (Go.bits .or .u64 x238000 (shl .u64 (Int.tmod (shr .u64 (Go.bits .or .u64 x235000 x236000) x7) 2) x7)) (Go.bits .or .u64 x238001 (shl .u64 1 x7))) else (none))))
end
def lockgateref03_Meet.f (k : Nat) (a0_0 : Int) (a0_1 : Int) (a1_0 : Int) (a1_1 : Int) : Option (Int × Int × Bool) := lockgateref03_Meet.l0 k 0 a0_0 a0_1 a1_0 a1_1 0 0
theorem lockgateref03_Meet.mono_l : ∀ k, (∀ y0 y1 y2 y3 y4 y5 y6, LeO (lockgateref03_Meet.l0 k y0 y1 y2 y3 y4 y5 y6) (lockgateref03_Meet.l0 (k + 1) y0 y1 y2 y3 y4 y5 y6)) ∧ (∀ y0 y1 y2 y3 y4 y5 y6 y7 y8 y9, LeO (lockgateref03_Meet.j1 k y0 y1 y2 y3 y4 y5 y6 y7 y8 y9) (lockgateref03_Meet.j1 (k + 1) y0 y1 y2 y3 y4 y5 y6 y7 y8 y9))
  | 0 => ⟨fun _ _ _ _ _ _ _ r h => by simp [lockgateref03_Meet.l0] at h, fun _ _ _ _ _ _ _ _ _ _ r h => by simp [lockgateref03_Meet.j1] at h⟩
  | k + 1 => by
    obtain ⟨ih0, ih1⟩ := lockgateref03_Meet.mono_l k
    refine ⟨?_, ?_⟩
    · intro y0 y1 y2 y3 y4 y5 y6
      unfold lockgateref03_Meet.l0
      repeat' first
      | (with_reducible exact ih0 _ _ _ _ _ _ _)
      | (with_reducible exact ih1 _ _ _ _ _ _ _ _ _ _)
      | (with_reducible exact LeO.refl _)
      | (with_reducible exact LeO.none _)
      | (with_reducible refine LeO.ite ?_ ?_)
      | (with_reducible refine LeO.bind ?_ (fun _ => ?_))
      | exact ih0 _ _ _ _ _ _ _
      | exact ih1 _ _ _ _ _ _ _ _ _ _
      | exact LeO.none _
      | refine LeO.ite ?_ ?_
      | refine LeO.bind ?_ (fun _ => ?_)
    · intro y0 y1 y2 y3 y4 y5 y6 y7 y8 y9
      unfold lockgateref03_Meet.j1
      repeat' first
      | (with_reducible exact ih0 _ _ _ _ _ _ _)
      | (with_reducible exact ih1 _ _ _ _ _ _ _ _ _ _)
      | (with_reducible exact LeO.refl _)
      | (with_reducible exact LeO.none _)
      | (with_reducible refine LeO.ite ?_ ?_)
      | (with_reducible refine LeO.bind ?_ (fun _ => ?_))
      | exact ih0 _ _ _ _ _ _ _
      | exact ih1 _ _ _ _ _ _ _ _ _ _
      | exact LeO.none _
      | refine LeO.ite ?_ ?_
      | refine LeO.bind ?_ (fun _ => ?_)
theorem lockgateref03_Meet.mono : ∀ a0 a1 a2 a3 k, LeO (lockgateref03_Meet.f k a0 a1 a2 a3) (lockgateref03_Meet.f (k + 1) a0 a1 a2 a3) := by
  intro a0 a1 a2 a3 k
  obtain ⟨ih0, ih1⟩ := lockgateref03_Meet.mono_l k
  unfold lockgateref03_Meet.f
  repeat' first
      | (with_reducible exact ih0 _ _ _ _ _ _ _)
      | (with_reducible exact ih1 _ _ _ _ _ _ _ _ _ _)
      | (with_reducible exact LeO.refl _)
      | (with_reducible exact LeO.none _)
      | (with_reducible refine LeO.ite ?_ ?_)
      | (with_reducible refine LeO.bind ?_ (fun _ => ?_))
      | exact ih0 _ _ _ _ _ _ _
      | exact ih1 _ _ _ _ _ _ _ _ _ _
      | exact LeO.none _
      | refine LeO.ite ?_ ?_
      | refine LeO.bind ?_ (fun _ => ?_)
set_option maxHeartbeats 8000000 in
set_option maxRecDepth 100000 in
theorem lockgateref03_Meet.calls (k : Nat) (a0_0 : Int) (a0_1 : Int) (a1_0 : Int) (a1_1 : Int) (r1 : Int) (r2 : Int) (r3 : Bool) (w : World) (h : lockgateref03_Meet.f k a0_0 a0_1 a1_0 a1_1 = some (r1, r2, r3)) :
    Calls Try.prog 24 #[.agg #[.int .u64 a0_0, .int .u64 a0_1], .agg #[.int .u64 a1_0, .int .u64 a1_1]] w fun e w' => e = .returned (.tuple #[.agg #[.int .u64 r1, .int .u64 r2], .bool r3]) ∧ Below w.heap.size w w' := by
  have hu24 := Try.underlying24
  have HB := Aside0.mk (Below.refl w.heap.size w)
  have H : (lockgateref03_Meet.l0 k 0 a0_0 a0_1 a1_0 a1_1 0 0) = some (r1, r2, r3) := h
  clear h
  have H' := Aside0.mk H
  clear H
  go_enter Try.func24, Try.ntmps24
  go_wp2_with (first | ((with_reducible refine gate_dst (N := 2) rfl ?_); refine box_event ?hg (N := 2) ?hd (cs := #[.int .u64 a0_0, .int .u64 a0_1]) (t := 24) ?hr ?_; (case hd => rfl); (case hg => rfl); (case hr => first | (go_simp; done) | (go_simp; rfl)); intro gb234 hg w3 hbox hb; have n0_ := Aside0.mk (below_step (by repeat (first | (with_reducible first | exact HB.out | apply lA_8 | apply lN_8 | apply lD_8) | exact HB.out)) hb); have n1_ := Aside0.mk (hbox); have n2_ := Aside0.mk ((by rw [hg]; exact (below_size (by repeat (first | (with_reducible first | exact HB.out | apply lA_8 | apply lN_8 | apply lD_8) | exact HB.out))) : w.heap.size ≤ gb234)); have n3_ := Aside0.mk ((by rw [hg]; exact (below_size (by repeat (first | (with_reducible first | exact HB.out | apply lA_8 | apply lN_8 | apply lD_8) | exact HB.out))) : w.heap.size ≤ gb234)); clear HB; have HB := n0_; have BK234 := n1_; have GW234 := n2_; have GE234 := n3_; clear n0_ n1_ n2_ n3_; clear hb hbox hg) | ((with_reducible refine gate_dst (N := 3) rfl ?_); refine box_event ?hg (N := 3) ?hd (cs := #[.int .u64 a1_0, .int .u64 a1_1]) (t := 24) ?hr ?_; (case hd => rfl); (case hg => rfl); (case hr => first | (go_simp; done) | (go_simp; rfl)); intro gb235 hg w4 hbox hb; have n0_ := Aside0.mk (blk_below (g := gb234) (o := .cells #[.int .u64 a0_0, .int .u64 a0_1] 24 (0, 0)) (by (with_reducible repeat (first | apply bN_8 | apply bD_8 | apply bA_8)); exact BK234.out) hb); have n1_ := Aside0.mk (below_step (by repeat (first | (with_reducible first | exact HB.out | apply lA_8 | apply lN_8 | apply lD_8 | refine lS_8 ?_ GE234.out) | exact HB.out)) hb); have n2_ := Aside0.mk (hbox); have n3_ := Aside0.mk ((by rw [hg]; exact (below_size (by repeat (first | (with_reducible first | exact HB.out | apply lA_8 | apply lN_8 | apply lD_8 | refine lS_8 ?_ GE234.out) | exact HB.out))) : w.heap.size ≤ gb235)); have n4_ := Aside0.mk ((by rw [hg]; exact (below_size (by repeat (first | (with_reducible first | exact HB.out | apply lA_8 | apply lN_8 | apply lD_8 | refine lS_8 ?_ GE234.out) | exact HB.out))) : w.heap.size ≤ gb235)); have n5_ := Aside0.mk ((by rw [hg]; exact Nat.ne_of_lt (blk_lt (g := gb234) (o := .cells #[.int .u64 a0_0, .int .u64 a0_1] 24 (0, 0)) (by (with_reducible repeat (first | apply bN_8 | apply bD_8 | apply bA_8)); exact BK234.out)) : gb234 ≠ gb235)); have n6_ := Aside0.mk ((by rw [hg]; exact Nat.ne_of_gt (blk_lt (g := gb234) (o := .cells #[.int .u64 a0_0, .int .u64 a0_1] 24 (0, 0)) (by (with_reducible repeat (first | apply bN_8 | apply bD_8 | apply bA_8)); exact BK234.out)) : gb235 ≠ gb234)); clear BK234; clear HB; have BK234 := n0_; have HB := n1_; have BK235 := n2_; have GW235 := n3_; have GE235 := n4_; have NB234_235 := n5_; have NB235_234 := n6_; clear n0_ n1_ n2_ n3_ n4_ n5_ n6_; clear hb hbox hg) | ((with_reducible refine gate_dst (N := 4) rfl ?_); refine box_event ?hg (N := 4) ?hd (cs := #[.int .u64 0, .int .u64 0]) (t := 24) ?hr ?_; (case hd => rfl); (case hg => rfl); (case hr => first | (go_simp; done) | (go_simp; rfl)); intro gb236 hg w5 hbox hb; have n0_ := Aside0.mk (blk_below (g := gb234) (o := .cells #[.int .u64 a0_0, .int .u64 a0_1] 24 (0, 0)) (by (with_reducible repeat (first | apply bN_8 | apply bD_8 | apply bA_8)); exact BK234.out) hb); have n1_ := Aside0.mk (blk_below (g := gb235) (o := .cells #[.int .u64 a1_0, .int .u64 a1_1] 24 (0, 0)) (by (with_reducible repeat (first | apply bN_8 | apply bD_8 | apply bA_8)); exact BK235.out) hb); have n2_ := Aside0.mk (below_step (by repeat (first | (with_reducible first | exact HB.out | apply lA_8 | apply lN_8 | apply lD_8 | refine lS_8 ?_ GE234.out | refine lS_8 ?_ GE235.out) | exact HB.out)) hb); have n3_ := Aside0.mk (hbox); have n4_ := Aside0.mk ((by rw [hg]; exact (below_size (by repeat (first | (with_reducible first | exact HB.out | apply lA_8 | apply lN_8 | apply lD_8 | refine lS_8 ?_ GE234.out | refine lS_8 ?_ GE235.out) | exact HB.out))) : w.heap.size ≤ gb236)); have n5_ := Aside0.mk ((by rw [hg]; exact (below_size (by repeat (first | (with_reducible first | exact HB.out | apply lA_8 | apply lN_8 | apply lD_8 | refine lS_8 ?_ GE234.out | refine lS_8 ?_ GE235.out) | exact HB.out))) : w.heap.size ≤ gb236)); have n6_ := Aside0.mk ((by rw [hg]; exact Nat.ne_of_lt (blk_lt (g := gb234) (o := .cells #[.int .u64 a0_0, .int .u64 a0_1] 24 (0, 0)) (by (with_reducible repeat (first | apply bN_8 | apply bD_8 | apply bA_8)); exact BK234.out)) : gb234 ≠ gb236)); have n7_ := Aside0.mk ((by rw [hg]; exact Nat.ne_of_gt (blk_lt (g := gb234) (o := .cells #[.int .u64 a0_0, .int .u64 a0_1] 24 (0, 0)) (by (with_reducible repeat (first | apply bN_8 | apply bD_8 | apply bA_8)); exact BK234.out)) : gb236 ≠ gb234)); have n8_ := Aside0.mk ((by rw [hg]; exact Nat.ne_of_lt (blk_lt (g := gb235) (o := .cells #[.int .u64 a1_0, .int .u64 a1_1] 24 (0, 0)) (by (with_reducible repeat (first | apply bN_8 | apply bD_8 | apply bA_8)); exact BK235.out)) : gb235 ≠ gb236)); have n9_ := Aside0.mk ((by rw [hg]; exact Nat.ne_of_gt (blk_lt (g := gb235) (o := .cells #[.int .u64 a1_0, .int .u64 a1_1] 24 (0, 0)) (by (with_reducible repeat (first | apply bN_8 | apply bD_8 | apply bA_8)); exact BK235.out)) : gb236 ≠ gb235)); clear BK234; clear BK235; clear HB; have BK234 := n0_; have BK235 := n1_; have HB := n2_; have BK236 := n3_; have GW236 := n4_; have GE236 := n5_; have NB234_236 := n6_; have NB236_234 := n7_; have NB235_236 := n8_; have NB236_235 := n9_; clear n0_ n1_ n2_ n3_ n4_ n5_ n6_ n7_ n8_ n9_; clear hb hbox hg) | ((with_reducible refine gate_dst (N := 6) rfl ?_); refine box_event ?hg (N := 6) ?hd (cs := #[.int .u64 0, .int .u64 0]) (t := 24) ?hr ?_; (case hd => rfl); (case hg => rfl); (case hr => first | (go_simp; done) | (go_simp; rfl)); intro gb237 hg w6 hbox hb; have n0_ := Aside0.mk (blk_below (g := gb234) (o := .cells #[.int .u64 a0_0, .int .u64 a0_1] 24 (0, 0)) (by (with_reducible repeat (first | apply bN_8 | apply bD_8 | apply bA_8)); exact BK234.out) hb); have n1_ := Aside0.mk (blk_below (g := gb235) (o := .cells #[.int .u64 a1_0, .int .u64 a1_1] 24 (0, 0)) (by (with_reducible repeat (first | apply bN_8 | apply bD_8 | apply bA_8)); exact BK235.out) hb); have n2_ := Aside0.mk (blk_below (g := gb236) (o := .cells #[.int .u64 0, .int .u64 0] 24 (0, 0)) (by (with_reducible repeat (first | apply bN_8 | apply bD_8 | apply bA_8)); exact BK236.out) hb); have n3_ := Aside0.mk (below_step (by repeat (first | (with_reducible first | exact HB.out | apply lA_8 | apply lN_8 | apply lD_8 | refine lS_8 ?_ GE234.out | refine lS_8 ?_ GE235.out | refine lS_8 ?_ GE236.out) | exact HB.out)) hb); have n4_ := Aside0.mk (hbox); have n5_ := Aside0.mk ((by rw [hg]; exact (below_size (by repeat (first | (with_reducible first | exact HB.out | apply lA_8 | apply lN_8 | apply lD_8 | refine lS_8 ?_ GE234.out | refine lS_8 ?_ GE235.out | refine lS_8 ?_ GE236.out) | exact HB.out))) : w.heap.size ≤ gb237)); have n6_ := Aside0.mk ((by rw [hg]; exact (below_size (by repeat (first | (with_reducible first | exact HB.out | apply lA_8 | apply lN_8 | apply lD_8 | refine lS_8 ?_ GE234.out | refine lS_8 ?_ GE235.out | refine lS_8 ?_ GE236.out) | exact HB.out))) : w.heap.size ≤ gb237)); have n7_ := Aside0.mk ((by rw [hg]; exact Nat.ne_of_lt (blk_lt (g := gb234) (o := .cells #[.int .u64 a0_0, .int .u64 a0_1] 24 (0, 0)) (by (with_reducible repeat (first | apply bN_8 | apply bD_8 | apply bA_8)); exact BK234.out)) : gb234 ≠ gb237)); have n8_ := Aside0.mk ((by rw [hg]; exact Nat.ne_of_gt (blk_lt (g := gb234) (o := .cells #[.int .u64 a0_0, .int .u64 a0_1] 24 (0, 0)) (by (with_reducible repeat (first | apply bN_8 | apply bD_8 | apply bA_8)); exact BK234.out)) : gb237 ≠ gb234)); have n9_ := Aside0.mk ((by rw [hg]; exact Nat.ne_of_lt (blk_lt (g := gb235) (o := .cells #[.int .u64 a1_0, .int .u64 a1_1] 24 (0, 0)) (by (with_reducible repeat (first | apply bN_8 | apply bD_8 | apply bA_8)); exact BK235.out)) : gb235 ≠ gb237)); have n10_ := Aside0.mk ((by rw [hg]; exact Nat.ne_of_gt (blk_lt (g := gb235) (o := .cells #[.int .u64 a1_0, .int .u64 a1_1] 24 (0, 0)) (by (with_reducible repeat (first | apply bN_8 | apply bD_8 | apply bA_8)); exact BK235.out)) : gb237 ≠ gb235)); have n11_ := Aside0.mk ((by rw [hg]; exact Nat.ne_of_lt (blk_lt (g := gb236) (o := .cells #[.int .u64 0, .int .u64 0] 24 (0, 0)) (by (with_reducible repeat (first | apply bN_8 | apply bD_8 | apply bA_8)); exact BK236.out)) : gb236 ≠ gb237)); have n12_ := Aside0.mk ((by rw [hg]; exact Nat.ne_of_gt (blk_lt (g := gb236) (o := .cells #[.int .u64 0, .int .u64 0] 24 (0, 0)) (by (with_reducible repeat (first | apply bN_8 | apply bD_8 | apply bA_8)); exact BK236.out)) : gb237 ≠ gb236)); clear BK234; clear BK235; clear BK236; clear HB; have BK234 := n0_; have BK235 := n1_; have BK236 := n2_; have HB := n3_; have BK237 := n4_; have GW237 := n5_; have GE237 := n6_; have NB234_237 := n7_; have NB237_234 := n8_; have NB235_237 := n9_; have NB237_235 := n10_; have NB236_237 := n11_; have NB237_236 := n12_; clear n0_ n1_ n2_ n3_ n4_ n5_ n6_ n7_ n8_ n9_ n10_ n11_ n12_; clear hb hbox hg))
  go_loopg [7] k (fun kq v7 w' => ∃ (x7_1 : Int) (x237000_1 : Int) (x237001_1 : Int) (x238000_1 : Int) (x238001_1 : Int), v7 = .int .u64 x7_1 ∧ Aside0 (lockgateref03_Meet.l0 kq x7_1 a0_0 a0_1 a1_0 a1_1 x238000_1 x238001_1 = some (r1, r2, r3)) ∧ Aside0 (kq ≤ k) ∧ Aside0 (w'.heap[gb234]? = some (.cells #[.int .u64 a0_0, .int .u64 a0_1] 24 (0, 0))) ∧ Aside0 (w'.heap[gb235]? = some (.cells #[.int .u64 a1_0, .int .u64 a1_1] 24 (0, 0))) ∧ Aside0 (w'.heap[gb236]? = some (.cells #[.int .u64 x237000_1, .int .u64 x237001_1] 24 (0, 0))) ∧ Aside0 (w'.heap[gb237]? = some (.cells #[.int .u64 x238000_1, .int .u64 x238001_1] 24 (0, 0))) ∧ Aside0 (Below w.heap.size w w'))
  case atStart => exact ⟨(0), (0), (0), (0), (0), (by first | rfl | (simp; done) | (simp [*]; done)), H', ⟨Nat.le_refl _⟩, ⟨by (with_reducible repeat (first | apply bN_8 | apply bD_8 | apply bA_8)); exact BK234.out⟩, ⟨by (with_reducible repeat (first | apply bN_8 | apply bD_8 | apply bA_8)); exact BK235.out⟩, ⟨by (with_reducible repeat (first | apply bN_8 | apply bD_8 | apply bA_8)); exact BK236.out⟩, ⟨by (with_reducible repeat (first | apply bN_8 | apply bD_8 | apply bA_8)); exact BK237.out⟩, ⟨by repeat (first | (with_reducible first | exact HB.out | apply lA_8 | apply lN_8 | apply lD_8 | refine lS_8 ?_ GE234.out | refine lS_8 ?_ GE235.out | refine lS_8 ?_ GE236.out | refine lS_8 ?_ GE237.out) | exact HB.out)⟩⟩
  case round =>
    clear H'
    try clear c2
    try clear p2
    obtain ⟨x7_1, x237000_1, x237001_1, x238000_1, x238001_1, rfl, HA, HK1, BK234, BK235, BK236, BK237, HB⟩ := hrel
    cases gk with
    | zero => exact absurd HA.out (by simp [lockgateref03_Meet.l0])
    | succ k1 =>
      have H := HA.out
      clear HA
      simp only [lockgateref03_Meet.l0] at H
      by_cases c7 : x7_1 < 64
      · rw [if_pos c7] at H
        have c7b0 : decide (x7_1 < 64) = true := decide_eq_true c7
        clear c7
        by_cases c8 : 0 ≤ x7_1
        · rw [if_pos c8] at H
          have c8b0 := eq_true c8
          have c8b1 : decide (0 ≤ x7_1) = true := decide_eq_true c8
          clear c8
          obtain ⟨ji9, hji9⟩ : ∃ j_ : Int, (shr .u64 a0_1 x7_1) = j_ := ⟨_, rfl⟩
          replace H : (if (Int.tmod (ji9) 2) = 0 then (if (Int.tmod (shr .u64 a1_1 x7_1) 2) = 0 then (lockgateref03_Meet.j1 k1 x7_1 ((Int.tmod (ji9) 2) == 0) ((Int.tmod (shr .u64 a1_1 x7_1) 2) == 0) ((Int.tmod (shr .u64 a0_0 x7_1) 2) != (Int.tmod (shr .u64 a1_0 x7_1) 2)) a0_0 a0_1 a1_0 a1_1 x238000_1 x238001_1) else (lockgateref03_Meet.j1 k1 x7_1 ((Int.tmod (ji9) 2) == 0) ((Int.tmod (shr .u64 a1_1 x7_1) 2) == 0) false a0_0 a0_1 a1_0 a1_1 x238000_1 x238001_1)) else (lockgateref03_Meet.j1 k1 x7_1 ((Int.tmod (ji9) 2) == 0) ((Int.tmod (shr .u64 a1_1 x7_1) 2) == 0) false a0_0 a0_1 a1_0 a1_1 x238000_1 x238001_1)) = some (r1, r2, r3) := by first | (rw [hji9] at H; exact H) | (simp only [hji9] at H ⊢; exact H)
          have hji9_ : (a0_1 / 2 ^ min x7_1.toNat 64) = ji9 := hji9
          have hji9z : x7_1 ≤ 64 → (a0_1 / 2 ^ x7_1.toNat) = ji9 := shr_small hji9
          have c10b0 := eq_true (of_decide_eq_true (by first | (with_reducible assumption) | assumption) : 0 ≤ x7_1)
          obtain ⟨ji11, hji11⟩ : ∃ j_ : Int, (shr .u64 a1_1 x7_1) = j_ := ⟨_, rfl⟩
          replace H : (if (Int.tmod (ji9) 2) = 0 then (if (Int.tmod (ji11) 2) = 0 then (lockgateref03_Meet.j1 k1 x7_1 ((Int.tmod (ji9) 2) == 0) ((Int.tmod (ji11) 2) == 0) ((Int.tmod (shr .u64 a0_0 x7_1) 2) != (Int.tmod (shr .u64 a1_0 x7_1) 2)) a0_0 a0_1 a1_0 a1_1 x238000_1 x238001_1) else (lockgateref03_Meet.j1 k1 x7_1 ((Int.tmod (ji9) 2) == 0) ((Int.tmod (ji11) 2) == 0) false a0_0 a0_1 a1_0 a1_1 x238000_1 x238001_1)) else (lockgateref03_Meet.j1 k1 x7_1 ((Int.tmod (ji9) 2) == 0) ((Int.tmod (ji11) 2) == 0) false a0_0 a0_1 a1_0 a1_1 x238000_1 x238001_1)) = some (r1, r2, r3) := by first | (rw [hji11] at H; exact H) | (simp only [hji11] at H ⊢; exact H)
          have hji11_ : (a1_1 / 2 ^ min x7_1.toNat 64) = ji11 := hji11
          have hji11z : x7_1 ≤ 64 → (a1_1 / 2 ^ x7_1.toNat) = ji11 := shr_small hji11
          have HC12 := Aside0.mk H
          clear H
          have hnb13 := NB234_235.out
          have hnc13 := NB235_234.out
          have hnb14 := NB234_236.out
          have hnc14 := NB236_234.out
          have hnb15 := NB234_237.out
          have hnc15 := NB237_234.out
          have hcz16_0 : wr.cell? ⟨gb234, 0, none⟩ = some (.int .u64 a0_0) := (blk_cell BK234.out 0).trans rfl
          have hcz16_1 : wr.cell? ⟨gb234, 1, none⟩ = some (.int .u64 a0_1) := (blk_cell BK234.out 1).trans rfl
          have hfz16_0 := blk_frozen BK234.out 0
          have hfz16_1 := blk_frozen BK234.out 1
          have hnb17 := NB235_236.out
          have hnc17 := NB236_235.out
          have hnb18 := NB235_237.out
          have hnc18 := NB237_235.out
          have hcz19_0 : wr.cell? ⟨gb235, 0, none⟩ = some (.int .u64 a1_0) := (blk_cell BK235.out 0).trans rfl
          have hcz19_1 : wr.cell? ⟨gb235, 1, none⟩ = some (.int .u64 a1_1) := (blk_cell BK235.out 1).trans rfl
          have hfz19_0 := blk_frozen BK235.out 0
          have hfz19_1 := blk_frozen BK235.out 1
          go_upto_region 7 with (fail)
          go_cut [42] (fun v42 wc => ∃ (kq : Nat) (x42_11 : Bool), v42 = .bool x42_11 ∧ Aside0 (lockgateref03_Meet.j1 kq x7_1 ((Int.tmod (ji9) 2) == 0) ((Int.tmod (ji11) 2) == 0) x42_11 a0_0 a0_1 a1_0 a1_1 x238000_1 x238001_1 = some (r1, r2, r3)) ∧ Aside0 (kq ≤ k1) ∧ Aside0 (wc.heap[gb234]? = some (.cells #[.int .u64 a0_0, .int .u64 a0_1] 24 (0, 0))) ∧ Aside0 (wc.heap[gb235]? = some (.cells #[.int .u64 a1_0, .int .u64 a1_1] 24 (0, 0))) ∧ Aside0 (wc.heap[gb236]? = some (.cells #[.int .u64 x237000_1, .int .u64 x237001_1] 24 (0, 0))) ∧ Aside0 (wc.heap[gb237]? = some (.cells #[.int .u64 x238000_1, .int .u64 x238001_1] 24 (0, 0))) ∧ Aside0 (Below w.heap.size w wc))
          case first =>
            have H := HC12.out
            clear HC12
            by_cases c20 : (Int.tmod (ji9) 2) = 0
            · rw [if_pos c20] at H
              have c20b0 : ((Int.tmod (ji9) 2) == 0) = true := beq_iff_eq.mpr c20
              have c20b1 : ((Int.tmod (ji9) 2) != 0) = false := bne_eq_false_iff_eq.mpr c20
              clear c20
              (first | rw [c20b0] | (simp only [i64_w, i32_w]; rw [c20b0]) | skip)
              by_cases c21 : (Int.tmod (ji11) 2) = 0
              · rw [if_pos c21] at H
                have c21b0 : ((Int.tmod (ji11) 2) == 0) = true := beq_iff_eq.mpr c21
                have c21b1 : ((Int.tmod (ji11) 2) != 0) = false := bne_eq_false_iff_eq.mpr c21
                clear c21
                have c22b0 := eq_true (of_decide_eq_true (by first | (with_reducible assumption) | assumption) : 0 ≤ x7_1)
                obtain ⟨ji23, hji23⟩ : ∃ j_ : Int, (shr .u64 a0_0 x7_1) = j_ := ⟨_, rfl⟩
                replace H : (lockgateref03_Meet.j1 k1 x7_1 ((Int.tmod (ji9) 2) == 0) ((Int.tmod (ji11) 2) == 0) ((Int.tmod (ji23) 2) != (Int.tmod (shr .u64 a1_0 x7_1) 2)) a0_0 a0_1 a1_0 a1_1 x238000_1 x238001_1) = some (r1, r2, r3) := by first | (rw [hji23] at H; exact H) | (simp only [hji23] at H ⊢; exact H)
                have hji23_ : (a0_0 / 2 ^ min x7_1.toNat 64) = ji23 := hji23
                have hji23z : x7_1 ≤ 64 → (a0_0 / 2 ^ x7_1.toNat) = ji23 := shr_small hji23
                have c24b0 := eq_true (of_decide_eq_true (by first | (with_reducible assumption) | assumption) : 0 ≤ x7_1)
                obtain ⟨ji25, hji25⟩ : ∃ j_ : Int, (shr .u64 a1_0 x7_1) = j_ := ⟨_, rfl⟩
                replace H : (lockgateref03_Meet.j1 k1 x7_1 ((Int.tmod (ji9) 2) == 0) ((Int.tmod (ji11) 2) == 0) ((Int.tmod (ji23) 2) != (Int.tmod (ji25) 2)) a0_0 a0_1 a1_0 a1_1 x238000_1 x238001_1) = some (r1, r2, r3) := by first | (rw [hji25] at H; exact H) | (simp only [hji25] at H ⊢; exact H)
                have hji25_ : (a1_0 / 2 ^ min x7_1.toNat 64) = ji25 := hji25
                have hji25z : x7_1 ≤ 64 → (a1_0 / 2 ^ x7_1.toNat) = ji25 := shr_small hji25
                have H' := Aside0.mk H
                clear H
                have hnb26 := NB234_235.out
                have hnc26 := NB235_234.out
                have hnb27 := NB234_236.out
                have hnc27 := NB236_234.out
                have hnb28 := NB234_237.out
                have hnc28 := NB237_234.out
                have hcz29_0 : wr.cell? ⟨gb234, 0, none⟩ = some (.int .u64 a0_0) := (blk_cell BK234.out 0).trans rfl
                have hcz29_1 : wr.cell? ⟨gb234, 1, none⟩ = some (.int .u64 a0_1) := (blk_cell BK234.out 1).trans rfl
                have hfz29_0 := blk_frozen BK234.out 0
                have hfz29_1 := blk_frozen BK234.out 1
                have hnb30 := NB235_236.out
                have hnc30 := NB236_235.out
                have hnb31 := NB235_237.out
                have hnc31 := NB237_235.out
                have hcz32_0 : wr.cell? ⟨gb235, 0, none⟩ = some (.int .u64 a1_0) := (blk_cell BK235.out 0).trans rfl
                have hcz32_1 : wr.cell? ⟨gb235, 1, none⟩ = some (.int .u64 a1_1) := (blk_cell BK235.out 1).trans rfl
                have hfz32_0 := blk_frozen BK235.out 0
                have hfz32_1 := blk_frozen BK235.out 1
                go_wp2
                (first | go_meet | (refine Met.intro ?_; go_step; (simp only [c21b1, c21b0, c20b1, c20b0] at H' ⊢); (repeat apply Exists.intro); refine ⟨?rel, rfl⟩))
                case rel => exact ⟨_, (((Int.tmod (ji23) 2) != (Int.tmod (ji25) 2))), (by first | rfl | (simp; done) | (simp only [← hji23, ← hji25] <;> (first | rfl | simp)) | (simp [*]; done)), H', ⟨by have := HK1.out; first | omega | exact Nat.le_refl _⟩, ⟨by (with_reducible repeat (first | apply bN_8 | apply bD_8 | apply bA_8)); exact BK234.out⟩, ⟨by (with_reducible repeat (first | apply bN_8 | apply bD_8 | apply bA_8)); exact BK235.out⟩, ⟨by (with_reducible repeat (first | apply bN_8 | apply bD_8 | apply bA_8)); exact BK236.out⟩, ⟨by (with_reducible repeat (first | apply bN_8 | apply bD_8 | apply bA_8)); exact BK237.out⟩, ⟨by repeat (first | (with_reducible first | exact HB.out | apply lA_8 | apply lN_8 | apply lD_8 | refine lS_8 ?_ GE234.out | refine lS_8 ?_ GE235.out | refine lS_8 ?_ GE236.out | refine lS_8 ?_ GE237.out) | exact HB.out)⟩⟩
              · rw [if_neg c21] at H
                have c21b0 : ((Int.tmod (ji11) 2) == 0) = false := beq_eq_false_iff_ne.mpr c21
                have c21b1 : ((Int.tmod (ji11) 2) != 0) = true := bne_iff_ne.mpr c21
                have H' := Aside0.mk H
                clear H
                go_wp2
                (first | go_meet | (refine Met.intro ?_; go_step; (simp only [c21b1, c21b0, c20b1, c20b0] at H' ⊢); (repeat apply Exists.intro); refine ⟨?rel, rfl⟩))
                case rel => exact ⟨_, (false), (by first | rfl | (simp; done) | (simp [*]; done)), H', ⟨by have := HK1.out; first | omega | exact Nat.le_refl _⟩, ⟨by (with_reducible repeat (first | apply bN_8 | apply bD_8 | apply bA_8)); exact BK234.out⟩, ⟨by (with_reducible repeat (first | apply bN_8 | apply bD_8 | apply bA_8)); exact BK235.out⟩, ⟨by (with_reducible repeat (first | apply bN_8 | apply bD_8 | apply bA_8)); exact BK236.out⟩, ⟨by (with_reducible repeat (first | apply bN_8 | apply bD_8 | apply bA_8)); exact BK237.out⟩, ⟨by repeat (first | (with_reducible first | exact HB.out | apply lA_8 | apply lN_8 | apply lD_8 | refine lS_8 ?_ GE234.out | refine lS_8 ?_ GE235.out | refine lS_8 ?_ GE236.out | refine lS_8 ?_ GE237.out) | exact HB.out)⟩⟩
            · rw [if_neg c20] at H
              have c20b0 : ((Int.tmod (ji9) 2) == 0) = false := beq_eq_false_iff_ne.mpr c20
              have c20b1 : ((Int.tmod (ji9) 2) != 0) = true := bne_iff_ne.mpr c20
              (first | rw [c20b0] | (simp only [i64_w, i32_w]; rw [c20b0]) | skip)
              have H' := Aside0.mk H
              clear H
              go_wp2
              (first | go_meet | (refine Met.intro ?_; go_step; (simp only [c20b1, c20b0] at H' ⊢); (repeat apply Exists.intro); refine ⟨?rel, rfl⟩))
              case rel => exact ⟨_, (false), (by first | rfl | (simp; done) | (simp [*]; done)), H', ⟨by have := HK1.out; first | omega | exact Nat.le_refl _⟩, ⟨by (with_reducible repeat (first | apply bN_8 | apply bD_8 | apply bA_8)); exact BK234.out⟩, ⟨by (with_reducible repeat (first | apply bN_8 | apply bD_8 | apply bA_8)); exact BK235.out⟩, ⟨by (with_reducible repeat (first | apply bN_8 | apply bD_8 | apply bA_8)); exact BK236.out⟩, ⟨by (with_reducible repeat (first | apply bN_8 | apply bD_8 | apply bA_8)); exact BK237.out⟩, ⟨by repeat (first | (with_reducible first | exact HB.out | apply lA_8 | apply lN_8 | apply lD_8 | refine lS_8 ?_ GE234.out | refine lS_8 ?_ GE235.out | refine lS_8 ?_ GE236.out | refine lS_8 ?_ GE237.out) | exact HB.out)⟩⟩
          case rest =>
            clear HC12
            try clear c1
            try clear c2
            try clear p2
            try clear c3
            try clear c7
            try clear c7b0
            try clear c8
            try clear c8b0
            try clear c8b1
            try clear c10
            try clear c10b0
            try clear c13
            try clear c14
            try clear c15
            try clear c17
            try clear c18
            try clear c20
            try clear c20b0
            try clear c20b1
            try clear c21
            try clear c21b0
            try clear c21b1
            try clear c22
            try clear c22b0
            try clear c24
            try clear c24b0
            try clear c26
            try clear c27
            try clear c28
            try clear c30
            try clear c31
            try clear hcz16_0
            try clear hcz16_1
            try clear hcz19_0
            try clear hcz19_1
            try clear hcz29_0
            try clear hcz29_1
            try clear hcz32_0
            try clear hcz32_1
            try clear hfz16_0
            try clear hfz16_1
            try clear hfz19_0
            try clear hfz19_1
            try clear hfz29_0
            try clear hfz29_1
            try clear hfz32_0
            try clear hfz32_1
            try clear p2
            obtain ⟨kq, x42_11, rfl, HA, HJ11, BK234, BK235, BK236, BK237, HB⟩ := hcut
            cases kq with
            | zero => exact absurd HA.out (by simp [lockgateref03_Meet.j1])
            | succ kj11 =>
              have H := HA.out
              clear HA
              simp only [lockgateref03_Meet.j1] at H
              by_cases c33 : x42_11 = true
              · subst c33
                have H1 : (some (0, 0, false)) = some (r1, r2, r3) := by rw [if_pos rfl] at H; exact H
                clear H
                have H := H1
                clear H1
                simp only [Option.some.injEq, Prod.mk.injEq] at H
                obtain ⟨rfl, rfl, rfl⟩ := H
                have hnb34 := NB236_234.out
                have hnc34 := NB234_236.out
                have hnb35 := NB236_235.out
                have hnc35 := NB235_236.out
                have hnb36 := NB236_237.out
                have hnc36 := NB237_236.out
                have hcz37_0 : wc.cell? ⟨gb236, 0, none⟩ = some (.int .u64 x237000_1) := (blk_cell BK236.out 0).trans rfl
                have hcz37_1 : wc.cell? ⟨gb236, 1, none⟩ = some (.int .u64 x237001_1) := (blk_cell BK236.out 1).trans rfl
                have hfz37_0 := blk_frozen BK236.out 0
                have hfz37_1 := blk_frozen BK236.out 1
                go_wp2
                refine bodyPost_ret (results_ct rfl _ _ gb236 24 #[.int .u64 0, .int .u64 0] (0, 0) _ rfl (by (with_reducible repeat (first | apply bN_8 | apply bD_8 | apply bA_8)); refine blk_put (cs := #[.int .u64 0, .int .u64 x237001_1]) ?_ 1 _ rfl; (with_reducible repeat (first | apply bN_8 | apply bD_8 | apply bA_8)); refine blk_put (cs := #[.int .u64 x237000_1, .int .u64 x237001_1]) ?_ 0 _ rfl; (with_reducible repeat (first | apply bN_8 | apply bD_8 | apply bA_8)); exact BK236.out) Try.underlying24 rfl (by kernel_rfl)) rfl ?_
                exact ⟨by first | rfl | (simp [errW_none, errW_some] <;> rfl) | (simp only [← hji9, ← hji11]; first | rfl | (simp [errW_none, errW_some] <;> rfl)) | (simp [*, errW_none, errW_some] <;> rfl), by repeat (first | (with_reducible first | exact HB.out | apply lA_8 | apply lN_8 | apply lD_8 | refine lS_8 ?_ GE234.out | refine lS_8 ?_ GE235.out | refine lS_8 ?_ GE236.out | refine lS_8 ?_ GE237.out) | exact HB.out)⟩
              · replace c33 := Bool.eq_false_iff.mpr c33
                subst c33
                have H1 : (if ((Int.tmod (ji9) 2) == 0) = true then (if 0 ≤ x7_1 then (lockgateref03_Meet.l0 kj11 (IntKind.u64.wrap (x7_1 + 1)) a0_0 a0_1 a1_0 a1_1 (Go.bits .or .u64 x238000_1 (shl .u64 (Int.tmod (shr .u64 (Go.bits .or .u64 a0_0 a1_0) x7_1) 2) x7_1)) x238001_1) else (none)) else (if ((Int.tmod (ji11) 2) == 0) = true then (if 0 ≤ x7_1 then (lockgateref03_Meet.l0 kj11 (IntKind.u64.wrap (x7_1 + 1)) a0_0 a0_1 a1_0 a1_1 (Go.bits .or .u64 x238000_1 (shl .u64 (Int.tmod (shr .u64 (Go.bits .or .u64 a0_0 a1_0) x7_1) 2) x7_1)) x238001_1) else (none)) else (if 0 ≤ x7_1 then (lockgateref03_Meet.l0 kj11 (IntKind.u64.wrap (x7_1 + 1)) a0_0 a0_1 a1_0 a1_1 (Go.bits .or .u64 x238000_1 (shl .u64 (Int.tmod (shr .u64 (Go.bits .or .u64 a0_0 a1_0) x7_1) 2) x7_1)) (Go.bits .or .u64 x238001_1 (shl .u64 1 x7_1))) else (none)))) = some (r1, r2, r3) := by rw [if_neg (show ¬ (false = true) by decide)] at H; exact H
                clear H
                have H := H1
                clear H1
                by_cases c38 : ((Int.tmod (ji9) 2) == 0) = true
                · rw [if_pos c38] at H
                  have c38b0 : ((Int.tmod (ji9) 2) == 0) = true := c38
                  (try (have c38b1 : decide ((Int.tmod (ji9) 2) = 0) = true := by simpa using c38))
                  (try (have c38b2 : ((Int.tmod (ji9) 2) == 0) = true := by simpa using c38))
                  clear c38
                  by_cases c39 : 0 ≤ x7_1
                  · rw [if_pos c39] at H
                    have c39b0 := eq_true c39
                    have c39b1 : decide (0 ≤ x7_1) = true := decide_eq_true c39
                    clear c39
                    obtain ⟨ji40, hji40⟩ : ∃ j_ : Int, (shr .u64 (Go.bits .or .u64 a0_0 a1_0) x7_1) = j_ := ⟨_, rfl⟩
                    replace H : (lockgateref03_Meet.l0 kj11 (IntKind.u64.wrap (x7_1 + 1)) a0_0 a0_1 a1_0 a1_1 (Go.bits .or .u64 x238000_1 (shl .u64 (Int.tmod (ji40) 2) x7_1)) x238001_1) = some (r1, r2, r3) := by first | (rw [hji40] at H; exact H) | (simp only [hji40] at H ⊢; exact H)
                    have hji40_ : ((Go.bits .or .u64 a0_0 a1_0) / 2 ^ min x7_1.toNat 64) = ji40 := hji40
                    have hji40z : x7_1 ≤ 64 → ((Go.bits .or .u64 a0_0 a1_0) / 2 ^ x7_1.toNat) = ji40 := shr_small hji40
                    have c41b0 := eq_true (of_decide_eq_true (by first | (with_reducible assumption) | assumption) : 0 ≤ x7_1)
                    obtain ⟨ji42, hji42⟩ : ∃ j_ : Int, (shl .u64 (Int.tmod (ji40) 2) x7_1) = j_ := ⟨_, rfl⟩
                    replace H : (lockgateref03_Meet.l0 kj11 (IntKind.u64.wrap (x7_1 + 1)) a0_0 a0_1 a1_0 a1_1 (Go.bits .or .u64 x238000_1 (ji42)) x238001_1) = some (r1, r2, r3) := by first | (rw [hji42] at H; exact H) | (simp only [hji42] at H ⊢; exact H)
                    have hji42_ : (IntKind.u64.wrap ((Int.tmod (ji40) 2) * 2 ^ min x7_1.toNat 64)) = ji42 := hji42
                    have hji42z : x7_1 ≤ 64 → (IntKind.u64.wrap ((Int.tmod (ji40) 2) * 2 ^ x7_1.toNat)) = ji42 := shl_small hji42
                    have H' := Aside0.mk H
                    clear H
                    have hnb43 := NB237_234.out
                    have hnc43 := NB234_237.out
                    have hnb44 := NB237_235.out
                    have hnc44 := NB235_237.out
                    have hnb45 := NB237_236.out
                    have hnc45 := NB236_237.out
                    have hcz46_0 : wc.cell? ⟨gb237, 0, none⟩ = some (.int .u64 x238000_1) := (blk_cell BK237.out 0).trans rfl
                    have hcz46_1 : wc.cell? ⟨gb237, 1, none⟩ = some (.int .u64 x238001_1) := (blk_cell BK237.out 1).trans rfl
                    have hfz46_0 := blk_frozen BK237.out 0
                    have hfz46_1 := blk_frozen BK237.out 1
                    have hnb47 := NB234_235.out
                    have hnc47 := NB235_234.out
                    have hnb48 := NB234_236.out
                    have hnc48 := NB236_234.out
                    have hcz49_0 : wc.cell? ⟨gb234, 0, none⟩ = some (.int .u64 a0_0) := (blk_cell BK234.out 0).trans rfl
                    have hcz49_1 : wc.cell? ⟨gb234, 1, none⟩ = some (.int .u64 a0_1) := (blk_cell BK234.out 1).trans rfl
                    have hfz49_0 := blk_frozen BK234.out 0
                    have hfz49_1 := blk_frozen BK234.out 1
                    have hnb50 := NB235_236.out
                    have hnc50 := NB236_235.out
                    have hcz51_0 : wc.cell? ⟨gb235, 0, none⟩ = some (.int .u64 a1_0) := (blk_cell BK235.out 0).trans rfl
                    have hcz51_1 : wc.cell? ⟨gb235, 1, none⟩ = some (.int .u64 a1_1) := (blk_cell BK235.out 1).trans rfl
                    have hfz51_0 := blk_frozen BK235.out 0
                    have hfz51_1 := blk_frozen BK235.out 1
                    go_wp2
                    go_roundg kj11
                    case measure => have := HK1.out; have := HJ11.out; omega
                    case rel => exact ⟨(IntKind.u64.wrap (x7_1 + 1)), (x237000_1), (x237001_1), (Go.bits .or .u64 x238000_1 (ji42)), (x238001_1), (by first | rfl | (simp; done) | (simp [*]; done)), H', ⟨by have := HK1.out; have := HJ11.out; omega⟩, ⟨by (with_reducible repeat (first | apply bN_8 | apply bD_8 | apply bA_8)); refine blk_far ?_ NB234_237.out _; (with_reducible repeat (first | apply bN_8 | apply bD_8 | apply bA_8)); exact BK234.out⟩, ⟨by (with_reducible repeat (first | apply bN_8 | apply bD_8 | apply bA_8)); refine blk_far ?_ NB235_237.out _; (with_reducible repeat (first | apply bN_8 | apply bD_8 | apply bA_8)); exact BK235.out⟩, ⟨by (with_reducible repeat (first | apply bN_8 | apply bD_8 | apply bA_8)); refine blk_far ?_ NB236_237.out _; (with_reducible repeat (first | apply bN_8 | apply bD_8 | apply bA_8)); exact BK236.out⟩, ⟨by (with_reducible repeat (first | apply bN_8 | apply bD_8 | apply bA_8)); refine blk_put (cs := #[.int .u64 x238000_1, .int .u64 x238001_1]) ?_ 0 _ rfl; (with_reducible repeat (first | apply bN_8 | apply bD_8 | apply bA_8)); exact BK237.out⟩, ⟨by repeat (first | (with_reducible first | exact HB.out | apply lA_8 | apply lN_8 | apply lD_8 | refine lS_8 ?_ GE234.out | refine lS_8 ?_ GE235.out | refine lS_8 ?_ GE236.out | refine lS_8 ?_ GE237.out) | exact HB.out)⟩⟩
                  · rw [if_neg c39] at H
                    exact absurd H (by simp)
                · rw [if_neg c38] at H
                  have c38b0 : ((Int.tmod (ji9) 2) == 0) = false := by simpa using c38
                  (try (have c38b1 : decide ((Int.tmod (ji9) 2) = 0) = false := by simpa using c38))
                  (try (have c38b2 : ((Int.tmod (ji9) 2) == 0) = false := by simpa using c38))
                  (try (have c38b3 : ¬ ((Int.tmod (ji9) 2) = 0) := by simpa using c38))
                  clear c38
                  by_cases c52 : ((Int.tmod (ji11) 2) == 0) = true
                  · rw [if_pos c52] at H
                    have c52b0 : ((Int.tmod (ji11) 2) == 0) = true := c52
                    (try (have c52b1 : decide ((Int.tmod (ji11) 2) = 0) = true := by simpa using c52))
                    (try (have c52b2 : ((Int.tmod (ji11) 2) == 0) = true := by simpa using c52))
                    clear c52
                    by_cases c53 : 0 ≤ x7_1
                    · rw [if_pos c53] at H
                      have c53b0 := eq_true c53
                      have c53b1 : decide (0 ≤ x7_1) = true := decide_eq_true c53
                      clear c53
                      obtain ⟨ji54, hji54⟩ : ∃ j_ : Int, (shr .u64 (Go.bits .or .u64 a0_0 a1_0) x7_1) = j_ := ⟨_, rfl⟩
                      replace H : (lockgateref03_Meet.l0 kj11 (IntKind.u64.wrap (x7_1 + 1)) a0_0 a0_1 a1_0 a1_1 (Go.bits .or .u64 x238000_1 (shl .u64 (Int.tmod (ji54) 2) x7_1)) x238001_1) = some (r1, r2, r3) := by first | (rw [hji54] at H; exact H) | (simp only [hji54] at H ⊢; exact H)
                      have hji54_ : ((Go.bits .or .u64 a0_0 a1_0) / 2 ^ min x7_1.toNat 64) = ji54 := hji54
                      have hji54z : x7_1 ≤ 64 → ((Go.bits .or .u64 a0_0 a1_0) / 2 ^ x7_1.toNat) = ji54 := shr_small hji54
                      have c55b0 := eq_true (of_decide_eq_true (by first | (with_reducible assumption) | assumption) : 0 ≤ x7_1)
                      obtain ⟨ji56, hji56⟩ : ∃ j_ : Int, (shl .u64 (Int.tmod (ji54) 2) x7_1) = j_ := ⟨_, rfl⟩
                      replace H : (lockgateref03_Meet.l0 kj11 (IntKind.u64.wrap (x7_1 + 1)) a0_0 a0_1 a1_0 a1_1 (Go.bits .or .u64 x238000_1 (ji56)) x238001_1) = some (r1, r2, r3) := by first | (rw [hji56] at H; exact H) | (simp only [hji56] at H ⊢; exact H)
                      have hji56_ : (IntKind.u64.wrap ((Int.tmod (ji54) 2) * 2 ^ min x7_1.toNat 64)) = ji56 := hji56
                      have hji56z : x7_1 ≤ 64 → (IntKind.u64.wrap ((Int.tmod (ji54) 2) * 2 ^ x7_1.toNat)) = ji56 := shl_small hji56
                      have H' := Aside0.mk H
                      clear H
                      have hnb57 := NB237_234.out
                      have hnc57 := NB234_237.out
                      have hnb58 := NB237_235.out
                      have hnc58 := NB235_237.out
                      have hnb59 := NB237_236.out
                      have hnc59 := NB236_237.out
                      have hcz60_0 : wc.cell? ⟨gb237, 0, none⟩ = some (.int .u64 x238000_1) := (blk_cell BK237.out 0).trans rfl
                      have hcz60_1 : wc.cell? ⟨gb237, 1, none⟩ = some (.int .u64 x238001_1) := (blk_cell BK237.out 1).trans rfl
                      have hfz60_0 := blk_frozen BK237.out 0
                      have hfz60_1 := blk_frozen BK237.out 1
                      have hnb61 := NB234_235.out
                      have hnc61 := NB235_234.out
                      have hnb62 := NB234_236.out
                      have hnc62 := NB236_234.out
                      have hcz63_0 : wc.cell? ⟨gb234, 0, none⟩ = some (.int .u64 a0_0) := (blk_cell BK234.out 0).trans rfl
                      have hcz63_1 : wc.cell? ⟨gb234, 1, none⟩ = some (.int .u64 a0_1) := (blk_cell BK234.out 1).trans rfl
                      have hfz63_0 := blk_frozen BK234.out 0
                      have hfz63_1 := blk_frozen BK234.out 1
                      have hnb64 := NB235_236.out
                      have hnc64 := NB236_235.out
                      have hcz65_0 : wc.cell? ⟨gb235, 0, none⟩ = some (.int .u64 a1_0) := (blk_cell BK235.out 0).trans rfl
                      have hcz65_1 : wc.cell? ⟨gb235, 1, none⟩ = some (.int .u64 a1_1) := (blk_cell BK235.out 1).trans rfl
                      have hfz65_0 := blk_frozen BK235.out 0
                      have hfz65_1 := blk_frozen BK235.out 1
                      go_wp2
                      go_roundg kj11
                      case measure => have := HK1.out; have := HJ11.out; omega
                      case rel => exact ⟨(IntKind.u64.wrap (x7_1 + 1)), (x237000_1), (x237001_1), (Go.bits .or .u64 x238000_1 (ji56)), (x238001_1), (by first | rfl | (simp; done) | (simp [*]; done)), H', ⟨by have := HK1.out; have := HJ11.out; omega⟩, ⟨by (with_reducible repeat (first | apply bN_8 | apply bD_8 | apply bA_8)); refine blk_far ?_ NB234_237.out _; (with_reducible repeat (first | apply bN_8 | apply bD_8 | apply bA_8)); exact BK234.out⟩, ⟨by (with_reducible repeat (first | apply bN_8 | apply bD_8 | apply bA_8)); refine blk_far ?_ NB235_237.out _; (with_reducible repeat (first | apply bN_8 | apply bD_8 | apply bA_8)); exact BK235.out⟩, ⟨by (with_reducible repeat (first | apply bN_8 | apply bD_8 | apply bA_8)); refine blk_far ?_ NB236_237.out _; (with_reducible repeat (first | apply bN_8 | apply bD_8 | apply bA_8)); exact BK236.out⟩, ⟨by (with_reducible repeat (first | apply bN_8 | apply bD_8 | apply bA_8)); refine blk_put (cs := #[.int .u64 x238000_1, .int .u64 x238001_1]) ?_ 0 _ rfl; (with_reducible repeat (first | apply bN_8 | apply bD_8 | apply bA_8)); exact BK237.out⟩, ⟨by repeat (first | (with_reducible first | exact HB.out | apply lA_8 | apply lN_8 | apply lD_8 | refine lS_8 ?_ GE234.out | refine lS_8 ?_ GE235.out | refine lS_8 ?_ GE236.out | refine lS_8 ?_ GE237.out) | exact HB.out)⟩⟩
                    · rw [if_neg c53] at H
                      exact absurd H (by simp)
                  · rw [if_neg c52] at H
                    have c52b0 : ((Int.tmod (ji11) 2) == 0) = false := by simpa using c52
                    (try (have c52b1 : decide ((Int.tmod (ji11) 2) = 0) = false := by simpa using c52))
                    (try (have c52b2 : ((Int.tmod (ji11) 2) == 0) = false := by simpa using c52))
                    (try (have c52b3 : ¬ ((Int.tmod (ji11) 2) = 0) := by simpa using c52))
                    clear c52
                    by_cases c66 : 0 ≤ x7_1
                    · rw [if_pos c66] at H
                      have c66b0 := eq_true c66
                      have c66b1 : decide (0 ≤ x7_1) = true := decide_eq_true c66
                      clear c66
                      obtain ⟨ji67, hji67⟩ : ∃ j_ : Int, (shl .u64 1 x7_1) = j_ := ⟨_, rfl⟩
                      replace H : (lockgateref03_Meet.l0 kj11 (IntKind.u64.wrap (x7_1 + 1)) a0_0 a0_1 a1_0 a1_1 (Go.bits .or .u64 x238000_1 (shl .u64 (Int.tmod (shr .u64 (Go.bits .or .u64 a0_0 a1_0) x7_1) 2) x7_1)) (Go.bits .or .u64 x238001_1 (ji67))) = some (r1, r2, r3) := by first | (rw [hji67] at H; exact H) | (simp only [hji67] at H ⊢; exact H)
                      have hji67_ : (IntKind.u64.wrap (1 * 2 ^ min x7_1.toNat 64)) = ji67 := hji67
                      have hji67z : x7_1 ≤ 64 → (IntKind.u64.wrap (1 * 2 ^ x7_1.toNat)) = ji67 := shl_small hji67
                      have hji67u : (IntKind.u64.wrap (2 ^ min x7_1.toNat 64)) = ji67 := by have h_ := hji67_; rw [Int.one_mul] at h_; exact h_
                      have hji67v : x7_1 ≤ 64 → (IntKind.u64.wrap (2 ^ x7_1.toNat)) = ji67 := fun hle_ => by have h_ := hji67z hle_; rw [Int.one_mul] at h_; exact h_
                      have c68b0 := eq_true (of_decide_eq_true (by first | (with_reducible assumption) | assumption) : 0 ≤ x7_1)
                      obtain ⟨ji69, hji69⟩ : ∃ j_ : Int, (shr .u64 (Go.bits .or .u64 a0_0 a1_0) x7_1) = j_ := ⟨_, rfl⟩
                      replace H : (lockgateref03_Meet.l0 kj11 (IntKind.u64.wrap (x7_1 + 1)) a0_0 a0_1 a1_0 a1_1 (Go.bits .or .u64 x238000_1 (shl .u64 (Int.tmod (ji69) 2) x7_1)) (Go.bits .or .u64 x238001_1 (ji67))) = some (r1, r2, r3) := by first | (rw [hji69] at H; exact H) | (simp only [hji69] at H ⊢; exact H)
                      have hji69_ : ((Go.bits .or .u64 a0_0 a1_0) / 2 ^ min x7_1.toNat 64) = ji69 := hji69
                      have hji69z : x7_1 ≤ 64 → ((Go.bits .or .u64 a0_0 a1_0) / 2 ^ x7_1.toNat) = ji69 := shr_small hji69
                      have c70b0 := eq_true (of_decide_eq_true (by first | (with_reducible assumption) | assumption) : 0 ≤ x7_1)
                      obtain ⟨ji71, hji71⟩ : ∃ j_ : Int, (shl .u64 (Int.tmod (ji69) 2) x7_1) = j_ := ⟨_, rfl⟩
                      replace H : (lockgateref03_Meet.l0 kj11 (IntKind.u64.wrap (x7_1 + 1)) a0_0 a0_1 a1_0 a1_1 (Go.bits .or .u64 x238000_1 (ji71)) (Go.bits .or .u64 x238001_1 (ji67))) = some (r1, r2, r3) := by first | (rw [hji71] at H; exact H) | (simp only [hji71] at H ⊢; exact H)
                      have hji71_ : (IntKind.u64.wrap ((Int.tmod (ji69) 2) * 2 ^ min x7_1.toNat 64)) = ji71 := hji71
                      have hji71z : x7_1 ≤ 64 → (IntKind.u64.wrap ((Int.tmod (ji69) 2) * 2 ^ x7_1.toNat)) = ji71 := shl_small hji71
                      have H' := Aside0.mk H
                      clear H
                      have hnb72 := NB237_234.out
                      have hnc72 := NB234_237.out
                      have hnb73 := NB237_235.out
                      have hnc73 := NB235_237.out
                      have hnb74 := NB237_236.out
                      have hnc74 := NB236_237.out
                      have hcz75_0 : wc.cell? ⟨gb237, 0, none⟩ = some (.int .u64 x238000_1) := (blk_cell BK237.out 0).trans rfl
                      have hcz75_1 : wc.cell? ⟨gb237, 1, none⟩ = some (.int .u64 x238001_1) := (blk_cell BK237.out 1).trans rfl
                      have hfz75_0 := blk_frozen BK237.out 0
                      have hfz75_1 := blk_frozen BK237.out 1
                      have hnb76 := NB234_235.out
                      have hnc76 := NB235_234.out
                      have hnb77 := NB234_236.out
                      have hnc77 := NB236_234.out
                      have hcz78_0 : wc.cell? ⟨gb234, 0, none⟩ = some (.int .u64 a0_0) := (blk_cell BK234.out 0).trans rfl
                      have hcz78_1 : wc.cell? ⟨gb234, 1, none⟩ = some (.int .u64 a0_1) := (blk_cell BK234.out 1).trans rfl
                      have hfz78_0 := blk_frozen BK234.out 0
                      have hfz78_1 := blk_frozen BK234.out 1
                      have hnb79 := NB235_236.out
                      have hnc79 := NB236_235.out
                      have hcz80_0 : wc.cell? ⟨gb235, 0, none⟩ = some (.int .u64 a1_0) := (blk_cell BK235.out 0).trans rfl
                      have hcz80_1 : wc.cell? ⟨gb235, 1, none⟩ = some (.int .u64 a1_1) := (blk_cell BK235.out 1).trans rfl
                      have hfz80_0 := blk_frozen BK235.out 0
                      have hfz80_1 := blk_frozen BK235.out 1
                      go_wp2
                      go_roundg kj11
                      case measure => have := HK1.out; have := HJ11.out; omega
                      case rel => exact ⟨(IntKind.u64.wrap (x7_1 + 1)), (x237000_1), (x237001_1), (Go.bits .or .u64 x238000_1 (ji71)), (Go.bits .or .u64 x238001_1 (ji67)), (by first | rfl | (simp; done) | (simp [*]; done)), H', ⟨by have := HK1.out; have := HJ11.out; omega⟩, ⟨by (with_reducible repeat (first | apply bN_8 | apply bD_8 | apply bA_8)); refine blk_far ?_ NB234_237.out _; (with_reducible repeat (first | apply bN_8 | apply bD_8 | apply bA_8)); refine blk_far ?_ NB234_237.out _; (with_reducible repeat (first | apply bN_8 | apply bD_8 | apply bA_8)); exact BK234.out⟩, ⟨by (with_reducible repeat (first | apply bN_8 | apply bD_8 | apply bA_8)); refine blk_far ?_ NB235_237.out _; (with_reducible repeat (first | apply bN_8 | apply bD_8 | apply bA_8)); refine blk_far ?_ NB235_237.out _; (with_reducible repeat (first | apply bN_8 | apply bD_8 | apply bA_8)); exact BK235.out⟩, ⟨by (with_reducible repeat (first | apply bN_8 | apply bD_8 | apply bA_8)); refine blk_far ?_ NB236_237.out _; (with_reducible repeat (first | apply bN_8 | apply bD_8 | apply bA_8)); refine blk_far ?_ NB236_237.out _; (with_reducible repeat (first | apply bN_8 | apply bD_8 | apply bA_8)); exact BK236.out⟩, ⟨by (with_reducible repeat (first | apply bN_8 | apply bD_8 | apply bA_8)); refine blk_put (cs := #[.int .u64 x238000_1, .int .u64 (Go.bits .or .u64 x238001_1 (ji67))]) ?_ 0 _ rfl; (with_reducible repeat (first | apply bN_8 | apply bD_8 | apply bA_8)); refine blk_put (cs := #[.int .u64 x238000_1, .int .u64 x238001_1]) ?_ 1 _ rfl; (with_reducible repeat (first | apply bN_8 | apply bD_8 | apply bA_8)); exact BK237.out⟩, ⟨by repeat (first | (with_reducible first | exact HB.out | apply lA_8 | apply lN_8 | apply lD_8 | refine lS_8 ?_ GE234.out | refine lS_8 ?_ GE235.out | refine lS_8 ?_ GE236.out | refine lS_8 ?_ GE237.out) | exact HB.out)⟩⟩
                    · rw [if_neg c66] at H
                      exact absurd H (by simp)
        · rw [if_neg c8] at H
          exact absurd H (by simp)
      · rw [if_neg c7] at H
        have c7b0 : decide (x7_1 < 64) = false := decide_eq_false c7
        clear c7
        simp only [Option.some.injEq, Prod.mk.injEq] at H
        obtain ⟨rfl, rfl, rfl⟩ := H
        have hnb81 := NB237_234.out
        have hnc81 := NB234_237.out
        have hnb82 := NB237_235.out
        have hnc82 := NB235_237.out
        have hnb83 := NB237_236.out
        have hnc83 := NB236_237.out
        have hcz84_0 : wr.cell? ⟨gb237, 0, none⟩ = some (.int .u64 x238000_1) := (blk_cell BK237.out 0).trans rfl
        have hcz84_1 : wr.cell? ⟨gb237, 1, none⟩ = some (.int .u64 x238001_1) := (blk_cell BK237.out 1).trans rfl
        have hfz84_0 := blk_frozen BK237.out 0
        have hfz84_1 := blk_frozen BK237.out 1
        have hnb85 := NB236_234.out
        have hnc85 := NB234_236.out
        have hnb86 := NB236_235.out
        have hnc86 := NB235_236.out
        have hcz87_0 : wr.cell? ⟨gb236, 0, none⟩ = some (.int .u64 x237000_1) := (blk_cell BK236.out 0).trans rfl
        have hcz87_1 : wr.cell? ⟨gb236, 1, none⟩ = some (.int .u64 x237001_1) := (blk_cell BK236.out 1).trans rfl
        have hfz87_0 := blk_frozen BK236.out 0
        have hfz87_1 := blk_frozen BK236.out 1
        go_wp2
        refine bodyPost_ret (results_ct rfl _ _ gb236 24 #[.int .u64 x238000_1, .int .u64 x238001_1] (0, 0) _ rfl (by (with_reducible repeat (first | apply bN_8 | apply bD_8 | apply bA_8)); refine blk_put (cs := #[.int .u64 x238000_1, .int .u64 x237001_1]) ?_ 1 _ rfl; (with_reducible repeat (first | apply bN_8 | apply bD_8 | apply bA_8)); refine blk_put (cs := #[.int .u64 x237000_1, .int .u64 x237001_1]) ?_ 0 _ rfl; (with_reducible repeat (first | apply bN_8 | apply bD_8 | apply bA_8)); exact BK236.out) Try.underlying24 rfl (by kernel_rfl)) rfl ?_
        exact ⟨by first | rfl | (simp [errW_none, errW_some] <;> rfl) | (simp [*, errW_none, errW_some] <;> rfl), by repeat (first | (with_reducible first | exact HB.out | apply lA_8 | apply lN_8 | apply lD_8 | refine lS_8 ?_ GE234.out | refine lS_8 ?_ GE235.out | refine lS_8 ?_ GE236.out | refine lS_8 ?_ GE237.out) | exact HB.out)⟩

/-! ### lockgateref03_Any: function 28 -/
def lockgateref03_Any.f  : Option (Int × Int) := some (0, 18446744073709551615)
set_option maxHeartbeats 8000000 in
set_option maxRecDepth 100000 in
theorem lockgateref03_Any.calls  (r1 : Int) (r2 : Int) (w : World) (h : lockgateref03_Any.f  = some (r1, r2)) :
    Calls Try.prog 28 #[] w fun e w' => e = .returned (.agg #[.int .u64 r1, .int .u64 r2]) ∧ Below w.heap.size w w' := by
  have hu24 := Try.underlying24
  have HB := Aside0.mk (Below.refl w.heap.size w)
  have H : (some (0, 18446744073709551615)) = some (r1, r2) := h
  clear h
  simp only [Option.some.injEq, Prod.mk.injEq] at H
  obtain ⟨rfl, rfl⟩ := H
  go_enter Try.func28, Try.ntmps28
  go_wp2_with (first | ((with_reducible refine gate_dst (N := 0) rfl ?_); refine box_event ?hg (N := 0) ?hd (cs := #[.int .u64 0, .int .u64 0]) (t := 24) ?hr ?_; (case hd => rfl); (case hg => rfl); (case hr => first | (go_simp; done) | (go_simp; rfl)); intro gb238 hg w1 hbox hb; have n0_ := Aside0.mk (below_step (by repeat (first | (with_reducible first | exact HB.out | apply lA_8 | apply lN_8 | apply lD_8) | exact HB.out)) hb); have n1_ := Aside0.mk (hbox); have n2_ := Aside0.mk ((by rw [hg]; exact (below_size (by repeat (first | (with_reducible first | exact HB.out | apply lA_8 | apply lN_8 | apply lD_8) | exact HB.out))) : w.heap.size ≤ gb238)); have n3_ := Aside0.mk ((by rw [hg]; exact (below_size (by repeat (first | (with_reducible first | exact HB.out | apply lA_8 | apply lN_8 | apply lD_8) | exact HB.out))) : w.heap.size ≤ gb238)); clear HB; have HB := n0_; have BK238 := n1_; have GW238 := n2_; have GE238 := n3_; clear n0_ n1_ n2_ n3_; clear hb hbox hg; have hcz2_0 : w1.cell? ⟨gb238, 0, none⟩ = some (.int .u64 0) := (blk_cell BK238.out 0).trans rfl; have hcz2_1 : w1.cell? ⟨gb238, 1, none⟩ = some (.int .u64 0) := (blk_cell BK238.out 1).trans rfl; have hfz2_0 := blk_frozen BK238.out 0; have hfz2_1 := blk_frozen BK238.out 1))
  refine bodyPost_ret (results_cell_row rfl _ _ gb238 24 #[.int .u64 0, .int .u64 18446744073709551615] (0, 0) _ rfl (by (with_reducible repeat (first | apply bN_8 | apply bD_8 | apply bA_8)); refine blk_put (cs := #[.int .u64 0, .int .u64 0]) ?_ 1 _ rfl; (with_reducible repeat (first | apply bN_8 | apply bD_8 | apply bA_8)); refine blk_put (cs := #[.int .u64 0, .int .u64 0]) ?_ 0 _ rfl; (with_reducible repeat (first | apply bN_8 | apply bD_8 | apply bA_8)); exact BK238.out) Try.underlying24 rfl (by kernel_rfl)) rfl ?_
  exact ⟨by first | rfl | (simp [errW_none, errW_some] <;> rfl) | (simp [*, errW_none, errW_some] <;> rfl), by repeat (first | (with_reducible first | exact HB.out | apply lA_8 | apply lN_8 | apply lD_8 | refine lS_8 ?_ GE238.out) | exact HB.out)⟩

end Go.Proofs.Ytkmnogcahpbdjaa.PA
