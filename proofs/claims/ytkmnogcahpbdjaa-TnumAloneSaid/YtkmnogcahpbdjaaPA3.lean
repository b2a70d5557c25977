-- PRINTED by print.py (a twelfth state) out of the translation. Not trusted: Lean checks it.
import Derived.Test.YtkmnogcahpbdjaaPA0
import Derived.Test.YtkmnogcahpbdjaaPA1
import Derived.Test.YtkmnogcahpbdjaaPA2
namespace Go.Proofs.Ytkmnogcahpbdjaa.PA
open Go.RowKit Go.Proofs.YtkmnogcahpbdjaaW.PrintWords Go.Proofs.YtkmnogcahpbdjaaW.PrintLast Go.Proofs.YtkmnogcahpbdjaaW.PrintMore
attribute [local go_sem] max2_int min2_int max_two min_two max_three min_three max_four min_four   -- for this text's walks alone
set_option linter.defProp false
def bN_3 := @blk_drewN
def bD_3 := @blk_drew
def bA_3 := @blk_alloc
def lA_3 := @below_alloc
def lN_3 := @pw_below_drewN
def lD_3 := @below_drew1
def lS_3 := @below_set
set_option linter.unusedVariables false
set_option linter.unusedSimpArgs false

attribute [local go_sem high] eqA24
/-! ### tnum_Mul: function 21 -/
def tnum_Mul.l0 : Nat → Int → Int → Int → Int → Int → Int → Int → Int → Option (Int × Int)
  | 0, _, _, _, _, _, _, _, _ => none
  | k + 1, x120000, x120001, x121000, x121001, x127000, x127001, x128000, x128001 => if (!(x120000 == 0) || (!(x120001 == 0))) = true then (if (Go.bits .and .u64 x120000 1) = 0 then (if (Go.bits .and .u64 x120001 1) = 0 then ((tnum_Rsh.f x120000 x120001 1).bind fun bt130 => ((tnum_Lsh.f x121000 x121001 1).bind fun bt132 => (tnum_Mul.l0 k bt130.1 bt130.2 bt132.1 bt132.2 x127000 x127001 x128000 x128001))) else ((tnum_Add.f x128000 x128001 0 (Go.bits .or .u64 x121000 x121001)).bind fun bt134 => ((tnum_Rsh.f x120000 x120001 1).bind fun bt136 => ((tnum_Lsh.f x121000 x121001 1).bind fun bt138 => (tnum_Mul.l0 k bt136.1 bt136.2 bt138.1 bt138.2 x127000 x127001 bt134.1 bt134.2))))) else ((tnum_Add.f x128000 x128001 0 x121001).bind fun bt140 => ((tnum_Rsh.f x120000 x120001 1).bind fun bt142 => ((tnum_Lsh.f x121000 x121001 1).bind fun bt144 => (tnum_Mul.l0 k bt142.1 bt142.2 bt144.1 bt144.2 x127000 x127001 bt140.1 bt140.2))))) else ((tnum_Add.f x127000 x127001 x128000 x128001).bind fun bt128 => (some (bt128.1, bt128.2)))
def tnum_Mul.f (k : Nat) (a0_0 : Int) (a0_1 : Int) (a1_0 : Int) (a1_1 : Int) : Option (Int × Int) := (tnum_Of.f (IntKind.u64.wrap (a0_0 * a1_0))).bind fun bt122 => ((tnum_Of.f 0).bind fun bt124 => (tnum_Mul.l0 k a0_0 a0_1 a1_0 a1_1 bt122.1 bt122.2 bt124.1 bt124.2))
theorem tnum_Mul.mono_l : ∀ k, (∀ y0 y1 y2 y3 y4 y5 y6 y7, LeO (tnum_Mul.l0 k y0 y1 y2 y3 y4 y5 y6 y7) (tnum_Mul.l0 (k + 1) y0 y1 y2 y3 y4 y5 y6 y7))
  | 0 => fun _ _ _ _ _ _ _ _ r h => by simp [tnum_Mul.l0] at h
  | k + 1 => by
    have ih0 := tnum_Mul.mono_l k
    · intro y0 y1 y2 y3 y4 y5 y6 y7
      unfold tnum_Mul.l0
      repeat' first
      | (with_reducible exact ih0 _ _ _ _ _ _ _ _)
      | (with_reducible exact LeO.refl _)
      | (with_reducible exact LeO.none _)
      | (with_reducible refine LeO.ite ?_ ?_)
      | (with_reducible refine LeO.bind ?_ (fun _ => ?_))
      | exact ih0 _ _ _ _ _ _ _ _
      | exact LeO.none _
      | refine LeO.ite ?_ ?_
      | refine LeO.bind ?_ (fun _ => ?_)
theorem tnum_Mul.mono : ∀ a0 a1 a2 a3 k, LeO (tnum_Mul.f k a0 a1 a2 a3) (tnum_Mul.f (k + 1) a0 a1 a2 a3) := by
  intro a0 a1 a2 a3 k
  have ih0 := tnum_Mul.mono_l k
  unfold tnum_Mul.f
  repeat' first
      | (with_reducible exact ih0 _ _ _ _ _ _ _ _)
      | (with_reducible exact LeO.refl _)
      | (with_reducible exact LeO.none _)
      | (with_reducible refine LeO.ite ?_ ?_)
      | (with_reducible refine LeO.bind ?_ (fun _ => ?_))
      | exact ih0 _ _ _ _ _ _ _ _
      | exact LeO.none _
      | refine LeO.ite ?_ ?_
      | refine LeO.bind ?_ (fun _ => ?_)
set_option maxHeartbeats 8000000 in
set_option maxRecDepth 100000 in
theorem tnum_Mul.calls (k : Nat) (a0_0 : Int) (a0_1 : Int) (a1_0 : Int) (a1_1 : Int) (r1 : Int) (r2 : Int) (w : World) (h : tnum_Mul.f k a0_0 a0_1 a1_0 a1_1 = some (r1, r2)) :
    Calls Try.prog 21 #[.agg #[.int .u64 a0_0, .int .u64 a0_1], .agg #[.int .u64 a1_0, .int .u64 a1_1]] w fun e w' => e = .returned (.agg #[.int .u64 r1, .int .u64 r2]) ∧ Below w.heap.size w w' := by
  have hu24 := Try.underlying24
  have HB := Aside0.mk (Below.refl w.heap.size w)
  have H : ((tnum_Of.f (IntKind.u64.wrap (a0_0 * a1_0))).bind fun bt122 => ((tnum_Of.f 0).bind fun bt124 => (tnum_Mul.l0 k a0_0 a0_1 a1_0 a1_1 bt122.1 bt122.2 bt124.1 bt124.2))) = some (r1, r2) := h
  clear h
  replace H := Option.bind_eq_some_iff.mp H
  obtain ⟨⟨t122, t123⟩, A30, H⟩ := H
  replace H : ((tnum_Of.f 0).bind fun bt124 => (tnum_Mul.l0 k a0_0 a0_1 a1_0 a1_1 t122 t123 bt124.1 bt124.2)) = some (r1, r2) := H
  have A3 := Aside0.mk A30
  clear A30
  replace H := Option.bind_eq_some_iff.mp H
  obtain ⟨⟨t124, t125⟩, A40, H⟩ := H
  replace H : (tnum_Mul.l0 k a0_0 a0_1 a1_0 a1_1 t122 t123 t124 t125) = some (r1, r2) := H
  have A4 := Aside0.mk A40
  clear A40
  have H' := Aside0.mk H
  clear H
  go_enter Try.func21, Try.ntmps21
  go_wp2_with (first | ((with_reducible refine gate_dst (N := 2) rfl ?_); refine box_event ?hg (N := 2) ?hd (cs := #[.int .u64 a0_0, .int .u64 a0_1]) (t := 24) ?hr ?_; (case hd => rfl); (case hg => rfl); (case hr => first | (go_simp; done) | (go_simp; rfl)); intro gb119 hg w5 hbox hb; have n0_ := Aside0.mk (below_step (by repeat (first | (with_reducible first | exact HB.out | apply lA_3 | apply lN_3 | apply lD_3) | exact HB.out)) hb); have n1_ := Aside0.mk (hbox); have n2_ := Aside0.mk ((by rw [hg]; exact (below_size (by repeat (first | (with_reducible first | exact HB.out | apply lA_3 | apply lN_3 | apply lD_3) | exact HB.out))) : w.heap.size ≤ gb119)); have n3_ := Aside0.mk ((by rw [hg]; exact (below_size (by repeat (first | (with_reducible first | exact HB.out | apply lA_3 | apply lN_3 | apply lD_3) | exact HB.out))) : w.heap.size ≤ gb119)); clear HB; have HB := n0_; have BK119 := n1_; have GW119 := n2_; have GE119 := n3_; clear n0_ n1_ n2_ n3_; clear hb hbox hg) | ((with_reducible refine gate_dst (N := 3) rfl ?_); refine box_event ?hg (N := 3) ?hd (cs := #[.int .u64 a1_0, .int .u64 a1_1]) (t := 24) ?hr ?_; (case hd => rfl); (case hg => rfl); (case hr => first | (go_simp; done) | (go_simp; rfl)); intro gb120 hg w6 hbox hb; have n0_ := Aside0.mk (blk_below (g := gb119) (o := .cells #[.int .u64 a0_0, .int .u64 a0_1] 24 (0, 0)) (by (with_reducible repeat (first | apply bN_3 | apply bD_3 | apply bA_3)); exact BK119.out) hb); have n1_ := Aside0.mk (below_step (by repeat (first | (with_reducible first | exact HB.out | apply lA_3 | apply lN_3 | apply lD_3 | refine lS_3 ?_ GE119.out) | exact HB.out)) hb); have n2_ := Aside0.mk (hbox); have n3_ := Aside0.mk ((by rw [hg]; exact (below_size (by repeat (first | (with_reducible first | exact HB.out | apply lA_3 | apply lN_3 | apply lD_3 | refine lS_3 ?_ GE119.out) | exact HB.out))) : w.heap.size ≤ gb120)); have n4_ := Aside0.mk ((by rw [hg]; exact (below_size (by repeat (first | (with_reducible first | exact HB.out | apply lA_3 | apply lN_3 | apply lD_3 | refine lS_3 ?_ GE119.out) | exact HB.out))) : w.heap.size ≤ gb120)); have n5_ := Aside0.mk ((by rw [hg]; exact Nat.ne_of_lt (blk_lt (g := gb119) (o := .cells #[.int .u64 a0_0, .int .u64 a0_1] 24 (0, 0)) (by (with_reducible repeat (first | apply bN_3 | apply bD_3 | apply bA_3)); exact BK119.out)) : gb119 ≠ gb120)); have n6_ := Aside0.mk ((by rw [hg]; exact Nat.ne_of_gt (blk_lt (g := gb119) (o := .cells #[.int .u64 a0_0, .int .u64 a0_1] 24 (0, 0)) (by (with_reducible repeat (first | apply bN_3 | apply bD_3 | apply bA_3)); exact BK119.out)) : gb120 ≠ gb119)); clear BK119; clear HB; have BK119 := n0_; have HB := n1_; have BK120 := n2_; have GW120 := n3_; have GE120 := n4_; have NB119_120 := n5_; have NB120_119 := n6_; clear n0_ n1_ n2_ n3_ n4_ n5_ n6_; clear hb hbox hg) | ((with_reducible refine gate_dst (N := 4) rfl ?_); refine box_event ?hg (N := 4) ?hd (cs := #[.int .u64 0, .int .u64 0]) (t := 24) ?hr ?_; (case hd => rfl); (case hg => rfl); (case hr => first | (go_simp; done) | (go_simp; rfl)); intro gb121 hg w7 hbox hb; have n0_ := Aside0.mk (blk_below (g := gb119) (o := .cells #[.int .u64 a0_0, .int .u64 a0_1] 24 (0, 0)) (by (with_reducible repeat (first | apply bN_3 | apply bD_3 | apply bA_3)); exact BK119.out) hb); have n1_ := Aside0.mk (blk_below (g := gb120) (o := .cells #[.int .u64 a1_0, .int .u64 a1_1] 24 (0, 0)) (by (with_reducible repeat (first | apply bN_3 | apply bD_3 | apply bA_3)); exact BK120.out) hb); have n2_ := Aside0.mk (below_step (by repeat (first | (with_reducible first | exact HB.out | apply lA_3 | apply lN_3 | apply lD_3 | refine lS_3 ?_ GE119.out | refine lS_3 ?_ GE120.out) | exact HB.out)) hb); have n3_ := Aside0.mk (hbox); have n4_ := Aside0.mk ((by rw [hg]; exact (below_size (by repeat (first | (with_reducible first | exact HB.out | apply lA_3 | apply lN_3 | apply lD_3 | refine lS_3 ?_ GE119.out | refine lS_3 ?_ GE120.out) | exact HB.out))) : w.heap.size ≤ gb121)); have n5_ := Aside0.mk ((by rw [hg]; exact (below_size (by repeat (first | (with_reducible first | exact HB.out | apply lA_3 | apply lN_3 | apply lD_3 | refine lS_3 ?_ GE119.out | refine lS_3 ?_ GE120.out) | exact HB.out))) : w.heap.size ≤ gb121)); have n6_ := Aside0.mk ((by rw [hg]; exact Nat.ne_of_lt (blk_lt (g := gb119) (o := .cells #[.int .u64 a0_0, .int .u64 a0_1] 24 (0, 0)) (by (with_reducible repeat (first | apply bN_3 | apply bD_3 | apply bA_3)); exact BK119.out)) : gb119 ≠ gb121)); have n7_ := Aside0.mk ((by rw [hg]; exact Nat.ne_of_gt (blk_lt (g := gb119) (o := .cells #[.int .u64 a0_0, .int .u64 a0_1] 24 (0, 0)) (by (with_reducible repeat (first | apply bN_3 | apply bD_3 | apply bA_3)); exact BK119.out)) : gb121 ≠ gb119)); have n8_ := Aside0.mk ((by rw [hg]; exact Nat.ne_of_lt (blk_lt (g := gb120) (o := .cells #[.int .u64 a1_0, .int .u64 a1_1] 24 (0, 0)) (by (with_reducible repeat (first | apply bN_3 | apply bD_3 | apply bA_3)); exact BK120.out)) : gb120 ≠ gb121)); have n9_ := Aside0.mk ((by rw [hg]; exact Nat.ne_of_gt (blk_lt (g := gb120) (o := .cells #[.int .u64 a1_0, .int .u64 a1_1] 24 (0, 0)) (by (with_reducible repeat (first | apply bN_3 | apply bD_3 | apply bA_3)); exact BK120.out)) : gb121 ≠ gb120)); clear BK119; clear BK120; clear HB; have BK119 := n0_; have BK120 := n1_; have HB := n2_; have BK121 := n3_; have GW121 := n4_; have GE121 := n5_; have NB119_121 := n6_; have NB121_119 := n7_; have NB120_121 := n8_; have NB121_120 := n9_; clear n0_ n1_ n2_ n3_ n4_ n5_ n6_ n7_ n8_ n9_; clear hb hbox hg; have hnb8 := NB119_120.out; have hnc8 := NB120_119.out; have hnb9 := NB119_121.out; have hnc9 := NB121_119.out; have hcz10_0 : w7.cell? ⟨gb119, 0, none⟩ = some (.int .u64 a0_0) := (blk_cell BK119.out 0).trans rfl; have hcz10_1 : w7.cell? ⟨gb119, 1, none⟩ = some (.int .u64 a0_1) := (blk_cell BK119.out 1).trans rfl; have hfz10_0 := blk_frozen BK119.out 0; have hfz10_1 := blk_frozen BK119.out 1; have hnb11 := NB120_121.out; have hnc11 := NB121_120.out; have hcz12_0 : w7.cell? ⟨gb120, 0, none⟩ = some (.int .u64 a1_0) := (blk_cell BK120.out 0).trans rfl; have hcz12_1 : w7.cell? ⟨gb120, 1, none⟩ = some (.int .u64 a1_1) := (blk_cell BK120.out 1).trans rfl; have hfz12_0 := blk_frozen BK120.out 0; have hfz12_1 := blk_frozen BK120.out 1) | ((with_reducible refine gate_callee (f := 25) rfl ?_); refine goesL_ (some 12) rfl rfl Try.func25 (by kernel_rfl) rfl #[.int .u64 (IntKind.u64.wrap (a0_0 * a1_0))] rfl (by (try simp only [List.map_toArray, List.map_cons, List.map_nil]); first | done | rfl) ?_; (with_reducible refine (tnum_Of.calls (IntKind.u64.wrap (a0_0 * a1_0)) t122 t123 _ A3.out).mono ?_); rintro e w13 ⟨rfl, hb⟩; refine ⟨_, rfl, ?_⟩; have n0_ := Aside0.mk (blk_below (g := gb119) (o := .cells #[.int .u64 a0_0, .int .u64 a0_1] 24 (0, 0)) (by (with_reducible repeat (first | apply bN_3 | apply bD_3 | apply bA_3)); exact BK119.out) hb); have n1_ := Aside0.mk (blk_below (g := gb120) (o := .cells #[.int .u64 a1_0, .int .u64 a1_1] 24 (0, 0)) (by (with_reducible repeat (first | apply bN_3 | apply bD_3 | apply bA_3)); exact BK120.out) hb); have n2_ := Aside0.mk (blk_below (g := gb121) (o := .cells #[.int .u64 0, .int .u64 0] 24 (0, 0)) (by (with_reducible repeat (first | apply bN_3 | apply bD_3 | apply bA_3)); exact BK121.out) hb); have n3_ := Aside0.mk (below_step (by repeat (first | (with_reducible first | exact HB.out | apply lA_3 | apply lN_3 | apply lD_3 | refine lS_3 ?_ GE119.out | refine lS_3 ?_ GE120.out | refine lS_3 ?_ GE121.out) | exact HB.out)) hb); clear BK119; clear BK120; clear BK121; clear HB; have BK119 := n0_; have BK120 := n1_; have BK121 := n2_; have HB := n3_; clear n0_ n1_ n2_ n3_; (try clear hb); (try clear hb2); (try clear hk); (try clear hi)) | ((with_reducible refine gate_callee (f := 25) rfl ?_); refine goesL_ (some 13) rfl rfl Try.func25 (by kernel_rfl) rfl #[.int .u64 0] rfl (by (try simp only [List.map_toArray, List.map_cons, List.map_nil]); first | done | rfl) ?_; (with_reducible refine (tnum_Of.calls 0 t124 t125 _ A4.out).mono ?_); rintro e w14 ⟨rfl, hb⟩; refine ⟨_, rfl, ?_⟩; have n0_ := Aside0.mk (blk_below (g := gb119) (o := .cells #[.int .u64 a0_0, .int .u64 a0_1] 24 (0, 0)) (by (with_reducible repeat (first | apply bN_3 | apply bD_3 | apply bA_3)); exact BK119.out) hb); have n1_ := Aside0.mk (blk_below (g := gb120) (o := .cells #[.int .u64 a1_0, .int .u64 a1_1] 24 (0, 0)) (by (with_reducible repeat (first | apply bN_3 | apply bD_3 | apply bA_3)); exact BK120.out) hb); have n2_ := Aside0.mk (blk_below (g := gb121) (o := .cells #[.int .u64 0, .int .u64 0] 24 (0, 0)) (by (with_reducible repeat (first | apply bN_3 | apply bD_3 | apply bA_3)); exact BK121.out) hb); have n3_ := Aside0.mk (below_step (by repeat (first | (with_reducible first | exact HB.out | apply lA_3 | apply lN_3 | apply lD_3 | refine lS_3 ?_ GE119.out | refine lS_3 ?_ GE120.out | refine lS_3 ?_ GE121.out) | exact HB.out)) hb); clear BK119; clear BK120; clear BK121; clear HB; have BK119 := n0_; have BK120 := n1_; have BK121 := n2_; have HB := n3_; clear n0_ n1_ n2_ n3_; (try clear hb); (try clear hb2); (try clear hk); (try clear hi)) | ((with_reducible refine gate_dst (N := 5) rfl ?_); refine box_event ?hg (N := 5) ?hd (cs := #[.int .u64 0, .int .u64 0]) (t := 24) ?hr ?_; (case hd => rfl); (case hg => rfl); (case hr => first | (go_simp; done) | (go_simp; rfl)); intro gb126 hg w15 hbox hb; have n0_ := Aside0.mk (blk_below (g := gb119) (o := .cells #[.int .u64 a0_0, .int .u64 a0_1] 24 (0, 0)) (by (with_reducible repeat (first | apply bN_3 | apply bD_3 | apply bA_3)); exact BK119.out) hb); have n1_ := Aside0.mk (blk_below (g := gb120) (o := .cells #[.int .u64 a1_0, .int .u64 a1_1] 24 (0, 0)) (by (with_reducible repeat (first | apply bN_3 | apply bD_3 | apply bA_3)); exact BK120.out) hb); have n2_ := Aside0.mk (blk_below (g := gb121) (o := .cells #[.int .u64 0, .int .u64 0] 24 (0, 0)) (by (with_reducible repeat (first | apply bN_3 | apply bD_3 | apply bA_3)); exact BK121.out) hb); have n3_ := Aside0.mk (below_step (by repeat (first | (with_reducible first | exact HB.out | apply lA_3 | apply lN_3 | apply lD_3 | refine lS_3 ?_ GE119.out | refine lS_3 ?_ GE120.out | refine lS_3 ?_ GE121.out) | exact HB.out)) hb); have n4_ := Aside0.mk (hbox); have n5_ := Aside0.mk ((by rw [hg]; exact (below_size (by repeat (first | (with_reducible first | exact HB.out | apply lA_3 | apply lN_3 | apply lD_3 | refine lS_3 ?_ GE119.out | refine lS_3 ?_ GE120.out | refine lS_3 ?_ GE121.out) | exact HB.out))) : w.heap.size ≤ gb126)); have n6_ := Aside0.mk ((by rw [hg]; exact (below_size (by repeat (first | (with_reducible first | exact HB.out | apply lA_3 | apply lN_3 | apply lD_3 | refine lS_3 ?_ GE119.out | refine lS_3 ?_ GE120.out | refine lS_3 ?_ GE121.out) | exact HB.out))) : w.heap.size ≤ gb126)); have n7_ := Aside0.mk ((by rw [hg]; exact Nat.ne_of_lt (blk_lt (g := gb119) (o := .cells #[.int .u64 a0_0, .int .u64 a0_1] 24 (0, 0)) (by (with_reducible repeat (first | apply bN_3 | apply bD_3 | apply bA_3)); exact BK119.out)) : gb119 ≠ gb126)); have n8_ := Aside0.mk ((by rw [hg]; exact Nat.ne_of_gt (blk_lt (g := gb119) (o := .cells #[.int .u64 a0_0, .int .u64 a0_1] 24 (0, 0)) (by (with_reducible repeat (first | apply bN_3 | apply bD_3 | apply bA_3)); exact BK119.out)) : gb126 ≠ gb119)); have n9_ := Aside0.mk ((by rw [hg]; exact Nat.ne_of_lt (blk_lt (g := gb120) (o := .cells #[.int .u64 a1_0, .int .u64 a1_1] 24 (0, 0)) (by (with_reducible repeat (first | apply bN_3 | apply bD_3 | apply bA_3)); exact BK120.out)) : gb120 ≠ gb126)); have n10_ := Aside0.mk ((by rw [hg]; exact Nat.ne_of_gt (blk_lt (g := gb120) (o := .cells #[.int .u64 a1_0, .int .u64 a1_1] 24 (0, 0)) (by (with_reducible repeat (first | apply bN_3 | apply bD_3 | apply bA_3)); exact BK120.out)) : gb126 ≠ gb120)); have n11_ := Aside0.mk ((by rw [hg]; exact Nat.ne_of_lt (blk_lt (g := gb121) (o := .cells #[.int .u64 0, .int .u64 0] 24 (0, 0)) (by (with_reducible repeat (first | apply bN_3 | apply bD_3 | apply bA_3)); exact BK121.out)) : gb121 ≠ gb126)); have n12_ := Aside0.mk ((by rw [hg]; exact Nat.ne_of_gt (blk_lt (g := gb121) (o := .cells #[.int .u64 0, .int .u64 0] 24 (0, 0)) (by (with_reducible repeat (first | apply bN_3 | apply bD_3 | apply bA_3)); exact BK121.out)) : gb126 ≠ gb121)); clear BK119; clear BK120; clear BK121; clear HB; have BK119 := n0_; have BK120 := n1_; have BK121 := n2_; have HB := n3_; have BK126 := n4_; have GW126 := n5_; have GE126 := n6_; have NB119_126 := n7_; have NB126_119 := n8_; have NB120_126 := n9_; have NB126_120 := n10_; have NB121_126 := n11_; have NB126_121 := n12_; clear n0_ n1_ n2_ n3_ n4_ n5_ n6_ n7_ n8_ n9_ n10_ n11_ n12_; clear hb hbox hg) | ((with_reducible refine gate_dst (N := 6) rfl ?_); refine box_event ?hg (N := 6) ?hd (cs := #[.int .u64 0, .int .u64 0]) (t := 24) ?hr ?_; (case hd => rfl); (case hg => rfl); (case hr => first | (go_simp; done) | (go_simp; rfl)); intro gb127 hg w16 hbox hb; have n0_ := Aside0.mk (blk_below (g := gb119) (o := .cells #[.int .u64 a0_0, .int .u64 a0_1] 24 (0, 0)) (by (with_reducible repeat (first | apply bN_3 | apply bD_3 | apply bA_3)); exact BK119.out) hb); have n1_ := Aside0.mk (blk_below (g := gb120) (o := .cells #[.int .u64 a1_0, .int .u64 a1_1] 24 (0, 0)) (by (with_reducible repeat (first | apply bN_3 | apply bD_3 | apply bA_3)); exact BK120.out) hb); have n2_ := Aside0.mk (blk_below (g := gb121) (o := .cells #[.int .u64 0, .int .u64 0] 24 (0, 0)) (by (with_reducible repeat (first | apply bN_3 | apply bD_3 | apply bA_3)); exact BK121.out) hb); have n3_ := Aside0.mk (blk_below (g := gb126) (o := .cells #[.int .u64 0, .int .u64 0] 24 (0, 0)) (by (with_reducible repeat (first | apply bN_3 | apply bD_3 | apply bA_3)); exact BK126.out) hb); have n4_ := Aside0.mk (below_step (by repeat (first | (with_reducible first | exact HB.out | apply lA_3 | apply lN_3 | apply lD_3 | refine lS_3 ?_ GE119.out | refine lS_3 ?_ GE120.out | refine lS_3 ?_ GE121.out | refine lS_3 ?_ GE126.out) | exact HB.out)) hb); have n5_ := Aside0.mk (hbox); have n6_ := Aside0.mk ((by rw [hg]; exact (below_size (by repeat (first | (with_reducible first | exact HB.out | apply lA_3 | apply lN_3 | apply lD_3 | refine lS_3 ?_ GE119.out | refine lS_3 ?_ GE120.out | refine lS_3 ?_ GE121.out | refine lS_3 ?_ GE126.out) | exact HB.out))) : w.heap.size ≤ gb127)); have n7_ := Aside0.mk ((by rw [hg]; exact (below_size (by repeat (first | (with_reducible first | exact HB.out | apply lA_3 | apply lN_3 | apply lD_3 | refine lS_3 ?_ GE119.out | refine lS_3 ?_ GE120.out | refine lS_3 ?_ GE121.out | refine lS_3 ?_ GE126.out) | exact HB.out))) : w.heap.size ≤ gb127)); have n8_ := Aside0.mk ((by rw [hg]; exact Nat.ne_of_lt (blk_lt (g := gb119) (o := .cells #[.int .u64 a0_0, .int .u64 a0_1] 24 (0, 0)) (by (with_reducible repeat (first | apply bN_3 | apply bD_3 | apply bA_3)); exact BK119.out)) : gb119 ≠ gb127)); have n9_ := Aside0.mk ((by rw [hg]; exact Nat.ne_of_gt (blk_lt (g := gb119) (o := .cells #[.int .u64 a0_0, .int .u64 a0_1] 24 (0, 0)) (by (with_reducible repeat (first | apply bN_3 | apply bD_3 | apply bA_3)); exact BK119.out)) : gb127 ≠ gb119)); have n10_ := Aside0.mk ((by rw [hg]; exact Nat.ne_of_lt (blk_lt (g := gb120) (o := .cells #[.int .u64 a1_0, .int .u64 a1_1] 24 (0, 0)) (by (with_reducible repeat (first | apply bN_3 | apply bD_3 | apply bA_3)); exact BK120.out)) : gb120 ≠ gb127)); have n11_ := Aside0.mk ((by rw [hg]; exact Nat.ne_of_gt (blk_lt (g := gb120) (o := .cells #[.int .u64 a1_0, .int .u64 a1_1] 24 (0, 0)) (by (with_reducible repeat (first | apply bN_3 | apply bD_3 | apply bA_3)); exact BK120.out)) : gb127 ≠ gb120)); have n12_ := Aside0.mk ((by rw [hg]; exact Nat.ne_of_lt (blk_lt (g := gb121) (o := .cells #[.int .u64 0, .int .u64 0] 24 (0, 0)) (by (with_reducible repeat (first | apply bN_3 | apply bD_3 | apply bA_3)); exact BK121.out)) : gb121 ≠ gb127)); have n13_ := Aside0.mk ((by rw [hg]; exact Nat.ne_of_gt (blk_lt (g := gb121) (o := .cells #[.int .u64 0, .int .u64 0] 24 (0, 0)) (by (with_reducible repeat (first | apply bN_3 | apply bD_3 | apply bA_3)); exact BK121.out)) : gb127 ≠ gb121)); have n14_ := Aside0.mk ((by rw [hg]; exact Nat.ne_of_lt (blk_lt (g := gb126) (o := .cells #[.int .u64 0, .int .u64 0] 24 (0, 0)) (by (with_reducible repeat (first | apply bN_3 | apply bD_3 | apply bA_3)); exact BK126.out)) : gb126 ≠ gb127)); have n15_ := Aside0.mk ((by rw [hg]; exact Nat.ne_of_gt (blk_lt (g := gb126) (o := .cells #[.int .u64 0, .int .u64 0] 24 (0, 0)) (by (with_reducible repeat (first | apply bN_3 | apply bD_3 | apply bA_3)); exact BK126.out)) : gb127 ≠ gb126)); clear BK119; clear BK120; clear BK121; clear BK126; clear HB; have BK119 := n0_; have BK120 := n1_; have BK121 := n2_; have BK126 := n3_; have HB := n4_; have BK127 := n5_; have GW127 := n6_; have GE127 := n7_; have NB119_127 := n8_; have NB127_119 := n9_; have NB120_127 := n10_; have NB127_120 := n11_; have NB121_127 := n12_; have NB127_121 := n13_; have NB126_127 := n14_; have NB127_126 := n15_; clear n0_ n1_ n2_ n3_ n4_ n5_ n6_ n7_ n8_ n9_ n10_ n11_ n12_ n13_ n14_ n15_; clear hb hbox hg; have hnb17 := NB126_119.out; have hnc17 := NB119_126.out; have hnb18 := NB126_120.out; have hnc18 := NB120_126.out; have hnb19 := NB126_121.out; have hnc19 := NB121_126.out; have hnb20 := NB126_127.out; have hnc20 := NB127_126.out; have hcz21_0 : w16.cell? ⟨gb126, 0, none⟩ = some (.int .u64 0) := (blk_cell BK126.out 0).trans rfl; have hcz21_1 : w16.cell? ⟨gb126, 1, none⟩ = some (.int .u64 0) := (blk_cell BK126.out 1).trans rfl; have hfz21_0 := blk_frozen BK126.out 0; have hfz21_1 := blk_frozen BK126.out 1; have hnb22 := NB127_119.out; have hnc22 := NB119_127.out; have hnb23 := NB127_120.out; have hnc23 := NB120_127.out; have hnb24 := NB127_121.out; have hnc24 := NB121_127.out; have hcz25_0 : w16.cell? ⟨gb127, 0, none⟩ = some (.int .u64 0) := (blk_cell BK127.out 0).trans rfl; have hcz25_1 : w16.cell? ⟨gb127, 1, none⟩ = some (.int .u64 0) := (blk_cell BK127.out 1).trans rfl; have hfz25_0 := blk_frozen BK127.out 0; have hfz25_1 := blk_frozen BK127.out 1))
  go_loopg [] k (fun kq w' => ∃ (x120000_1 : Int) (x120001_1 : Int) (x121000_1 : Int) (x121001_1 : Int) (x128000_1 : Int) (x128001_1 : Int), Aside0 (tnum_Mul.l0 kq x120000_1 x120001_1 x121000_1 x121001_1 t122 t123 x128000_1 x128001_1 = some (r1, r2)) ∧ Aside0 (kq ≤ k) ∧ Aside0 (w'.heap[gb119]? = some (.cells #[.int .u64 x120000_1, .int .u64 x120001_1] 24 (0, 0))) ∧ Aside0 (w'.heap[gb120]? = some (.cells #[.int .u64 x121000_1, .int .u64 x121001_1] 24 (0, 0))) ∧ Aside0 (w'.heap[gb121]? = some (.cells #[.int .u64 0, .int .u64 0] 24 (0, 0))) ∧ Aside0 (w'.heap[gb126]? = some (.cells #[.int .u64 t122, .int .u64 t123] 24 (0, 0))) ∧ Aside0 (w'.heap[gb127]? = some (.cells #[.int .u64 x128000_1, .int .u64 x128001_1] 24 (0, 0))) ∧ Aside0 (Below w.heap.size w w'))
  case atStart => exact ⟨(a0_0), (a0_1), (a1_0), (a1_1), (t124), (t125), H', ⟨Nat.le_refl _⟩, ⟨by (with_reducible repeat (first | apply bN_3 | apply bD_3 | apply bA_3)); refine blk_far ?_ NB119_127.out _; (with_reducible repeat (first | apply bN_3 | apply bD_3 | apply bA_3)); refine blk_far ?_ NB119_127.out _; (with_reducible repeat (first | apply bN_3 | apply bD_3 | apply bA_3)); refine blk_far ?_ NB119_126.out _; (with_reducible repeat (first | apply bN_3 | apply bD_3 | apply bA_3)); refine blk_far ?_ NB119_126.out _; (with_reducible repeat (first | apply bN_3 | apply bD_3 | apply bA_3)); exact BK119.out⟩, ⟨by (with_reducible repeat (first | apply bN_3 | apply bD_3 | apply bA_3)); refine blk_far ?_ NB120_127.out _; (with_reducible repeat (first | apply bN_3 | apply bD_3 | apply bA_3)); refine blk_far ?_ NB120_127.out _; (with_reducible repeat (first | apply bN_3 | apply bD_3 | apply bA_3)); refine blk_far ?_ NB120_126.out _; (with_reducible repeat (first | apply bN_3 | apply bD_3 | apply bA_3)); refine blk_far ?_ NB120_126.out _; (with_reducible repeat (first | apply bN_3 | apply bD_3 | apply bA_3)); exact BK120.out⟩, ⟨by (with_reducible repeat (first | apply bN_3 | apply bD_3 | apply bA_3)); refine blk_far ?_ NB121_127.out _; (with_reducible repeat (first | apply bN_3 | apply bD_3 | apply bA_3)); refine blk_far ?_ NB121_127.out _; (with_reducible repeat (first | apply bN_3 | apply bD_3 | apply bA_3)); refine blk_far ?_ NB121_126.out _; (with_reducible repeat (first | apply bN_3 | apply bD_3 | apply bA_3)); refine blk_far ?_ NB121_126.out _; (with_reducible repeat (first | apply bN_3 | apply bD_3 | apply bA_3)); exact BK121.out⟩, ⟨by (with_reducible repeat (first | apply bN_3 | apply bD_3 | apply bA_3)); refine blk_far ?_ NB126_127.out _; (with_reducible repeat (first | apply bN_3 | apply bD_3 | apply bA_3)); refine blk_far ?_ NB126_127.out _; (with_reducible repeat (first | apply bN_3 | apply bD_3 | apply bA_3)); refine blk_put (cs := #[.int .u64 t122, .int .u64 0]) ?_ 1 _ rfl; (with_reducible repeat (first | apply bN_3 | apply bD_3 | apply bA_3)); refine blk_put (cs := #[.int .u64 0, .int .u64 0]) ?_ 0 _ rfl; (with_reducible repeat (first | apply bN_3 | apply bD_3 | apply bA_3)); exact BK126.out⟩, ⟨by (with_reducible repeat (first | apply bN_3 | apply bD_3 | apply bA_3)); refine blk_put (cs := #[.int .u64 t124, .int .u64 0]) ?_ 1 _ rfl; (with_reducible repeat (first | apply bN_3 | apply bD_3 | apply bA_3)); refine blk_put (cs := #[.int .u64 0, .int .u64 0]) ?_ 0 _ rfl; (with_reducible repeat (first | apply bN_3 | apply bD_3 | apply bA_3)); refine blk_far ?_ NB127_126.out _; (with_reducible repeat (first | apply bN_3 | apply bD_3 | apply bA_3)); refine blk_far ?_ NB127_126.out _; (with_reducible repeat (first | apply bN_3 | apply bD_3 | apply bA_3)); exact BK127.out⟩, ⟨by repeat (first | (with_reducible first | exact HB.out | apply lA_3 | apply lN_3 | apply lD_3 | refine lS_3 ?_ GE119.out | refine lS_3 ?_ GE120.out | refine lS_3 ?_ GE121.out | refine lS_3 ?_ GE126.out | refine lS_3 ?_ GE127.out) | exact HB.out)⟩⟩
  case round =>
    clear H'
    try clear c1
    try clear c2
    try clear p2
    try clear c8
    try clear c9
    try clear c11
    try clear c17
    try clear c18
    try clear c19
    try clear c20
    try clear c21
    try clear c22
    try clear c23
    try clear c24
    try clear c25
    try clear hcz10_0
    try clear hcz10_1
    try clear hcz12_0
    try clear hcz12_1
    try clear hcz21_0
    try clear hcz21_1
    try clear hcz25_0
    try clear hcz25_1
    try clear hfz10_0
    try clear hfz10_1
    try clear hfz12_0
    try clear hfz12_1
    try clear hfz21_0
    try clear hfz21_1
    try clear hfz25_0
    try clear hfz25_1
    obtain ⟨x120000_1, x120001_1, x121000_1, x121001_1, x128000_1, x128001_1, HA, HK1, BK119, BK120, BK121, BK126, BK127, HB⟩ := hrel
    cases gk with
    | zero => exact absurd HA.out (by simp [tnum_Mul.l0])
    | succ k1 =>
      have H := HA.out
      clear HA
      simp only [tnum_Mul.l0] at H
      by_cases c26 : (!(x120000_1 == 0) || (!(x120001_1 == 0))) = true
      · rw [if_pos c26] at H
        have c26b0 : (!(x120000_1 == 0) || (!(x120001_1 == 0))) = true := c26
        clear c26
        by_cases c27 : (Go.bits .and .u64 x120000_1 1) = 0
        · rw [if_pos c27] at H
          have c27b0 : ((Go.bits .and .u64 x120000_1 1) == 0) = true := beq_iff_eq.mpr c27
          have c27b1 : ((Go.bits .and .u64 x120000_1 1) != 0) = false := bne_eq_false_iff_eq.mpr c27
          clear c27
          by_cases c28 : (Go.bits .and .u64 x120001_1 1) = 0
          · rw [if_pos c28] at H
            have c28b0 : ((Go.bits .and .u64 x120001_1 1) == 0) = true := beq_iff_eq.mpr c28
            have c28b1 : ((Go.bits .and .u64 x120001_1 1) != 0) = false := bne_eq_false_iff_eq.mpr c28
            clear c28
            replace H := Option.bind_eq_some_iff.mp H
            obtain ⟨⟨t130, t131⟩, A290, H⟩ := H
            replace H : ((tnum_Lsh.f x121000_1 x121001_1 1).bind fun bt132 => (tnum_Mul.l0 k1 t130 t131 bt132.1 bt132.2 t122 t123 x128000_1 x128001_1)) = some (r1, r2) := H
            have A29 := Aside0.mk A290
            clear A290
            replace H := Option.bind_eq_some_iff.mp H
            obtain ⟨⟨t132, t133⟩, A300, H⟩ := H
            replace H : (tnum_Mul.l0 k1 t130 t131 t132 t133 t122 t123 x128000_1 x128001_1) = some (r1, r2) := H
            have A30 := Aside0.mk A300
            clear A300
            have H' := Aside0.mk H
            clear H
            have hnb31 := NB119_120.out
            have hnc31 := NB120_119.out
            have hnb32 := NB119_121.out
            have hnc32 := NB121_119.out
            have hnb33 := NB119_126.out
            have hnc33 := NB126_119.out
            have hnb34 := NB119_127.out
            have hnc34 := NB127_119.out
            have hcz35_0 : wr.cell? ⟨gb119, 0, none⟩ = some (.int .u64 x120000_1) := (blk_cell BK119.out 0).trans rfl
            have hcz35_1 : wr.cell? ⟨gb119, 1, none⟩ = some (.int .u64 x120001_1) := (blk_cell BK119.out 1).trans rfl
            have hfz35_0 := blk_frozen BK119.out 0
            have hfz35_1 := blk_frozen BK119.out 1
            try go_wp2
            have n0_ := Aside0.mk (blk_drew BK119.out)
            have n1_ := Aside0.mk (blk_drew BK120.out)
            have n2_ := Aside0.mk (blk_drew BK121.out)
            have n3_ := Aside0.mk (blk_drew BK126.out)
            have n4_ := Aside0.mk (blk_drew BK127.out)
            have n5_ := Aside0.mk (below_drew1 HB.out)
            clear BK119
            clear BK120
            clear BK121
            clear BK126
            clear BK127
            clear HB
            have BK119 := n0_
            have BK120 := n1_
            have BK121 := n2_
            have BK126 := n3_
            have BK127 := n4_
            have HB := n5_
            clear n0_ n1_ n2_ n3_ n4_ n5_
            refine start_ (n := 6) (S := fun w' => w'.cell? ⟨gb119, 0, none⟩ = some (.int .u64 x120000_1) ∧ w'.cell? ⟨gb119, 1, none⟩ = some (.int .u64 x120001_1) ∧ w'.cell? ⟨gb120, 0, none⟩ = some (.int .u64 x121000_1) ∧ w'.cell? ⟨gb120, 1, none⟩ = some (.int .u64 x121001_1)) (ds := [4, 5]) #[false, false, false, false, false, false] (by kernel_rfl) rfl rfl ⟨(blk_cell BK119.out 0).trans rfl, (blk_cell BK119.out 1).trans rfl, (blk_cell BK120.out 0).trans rfl, (blk_cell BK120.out 1).trans rfl⟩ (fun hHeld => ?_)
            generalize wr.drew = w36 at BK119 BK120 BK121 BK126 BK127 HB hHeld ⊢
            refine take_ (i := 0) (N := some 40) (v := ?_) (a' := ?_) #[true, false, false, false, false, false] rfl rfl (by kernel_rfl) (fun _ _ _ h => h) (Or.inl ⟨by rfl, ?_⟩) hHeld ?_ ?_
            rotate_left
            · rintro w' ⟨s0, s1, s2, s3⟩
              go_simp
              with_reducible rfl
            rotate_left
            · simp only [Act.put, List.setIfInBounds_toArray, List.set_cons_zero, List.set_cons_succ, i64_w, i32_w]
              rfl
            refine take_ (i := 2) (N := some 42) (v := ?_) (a' := ?_) #[true, false, true, false, false, false] rfl rfl (by kernel_rfl) (fun _ _ _ h => h) (Or.inl ⟨by rfl, ?_⟩) hHeld ?_ ?_
            rotate_left
            · rintro w' ⟨s0, s1, s2, s3⟩
              go_simp
              with_reducible rfl
            rotate_left
            · simp only [Act.put, List.setIfInBounds_toArray, List.set_cons_zero, List.set_cons_succ, i64_w, i32_w]
              rfl
            refine one_ (i := 1) (N := some 41) #[true, true, true, false, false, false] rfl rfl (by kernel_rfl) (by decide) (fun K hK => ?_)
            refine goes_ Try.func42 (by kernel_rfl) rfl #[.agg #[.int .u64 x120000_1, .int .u64 x120001_1], .int .i64 1] (by rfl) rfl rfl (by (try simp only [List.map_toArray, List.map_cons, List.map_nil]); first | done | rfl) ?_
            with_reducible refine (tnum_Rsh.calls x120000_1 x120001_1 1 t130 t131 _ A29.out).mono ?_
            rintro e w37 ⟨rfl, hb⟩
            refine ⟨_, rfl, ?_⟩
            have n0_ := Aside0.mk (blk_below (g := gb119) (o := .cells #[.int .u64 x120000_1, .int .u64 x120001_1] 24 (0, 0)) (by (with_reducible repeat (first | apply bN_3 | apply bD_3 | apply bA_3)); exact BK119.out) hb)
            have n1_ := Aside0.mk (blk_below (g := gb120) (o := .cells #[.int .u64 x121000_1, .int .u64 x121001_1] 24 (0, 0)) (by (with_reducible repeat (first | apply bN_3 | apply bD_3 | apply bA_3)); exact BK120.out) hb)
            have n2_ := Aside0.mk (blk_below (g := gb121) (o := .cells #[.int .u64 0, .int .u64 0] 24 (0, 0)) (by (with_reducible repeat (first | apply bN_3 | apply bD_3 | apply bA_3)); exact BK121.out) hb)
            have n3_ := Aside0.mk (blk_below (g := gb126) (o := .cells #[.int .u64 t122, .int .u64 t123] 24 (0, 0)) (by (with_reducible repeat (first | apply bN_3 | apply bD_3 | apply bA_3)); exact BK126.out) hb)
            have n4_ := Aside0.mk (blk_below (g := gb127) (o := .cells #[.int .u64 x128000_1, .int .u64 x128001_1] 24 (0, 0)) (by (with_reducible repeat (first | apply bN_3 | apply bD_3 | apply bA_3)); exact BK127.out) hb)
            have n5_ := Aside0.mk (below_step (by repeat (first | (with_reducible first | exact HB.out | apply lA_3 | apply lN_3 | apply lD_3 | refine lS_3 ?_ GE119.out | refine lS_3 ?_ GE120.out | refine lS_3 ?_ GE121.out | refine lS_3 ?_ GE126.out | refine lS_3 ?_ GE127.out) | exact HB.out)) hb)
            clear BK119
            clear BK120
            clear BK121
            clear BK126
            clear BK127
            clear HB
            have BK119 := n0_
            have BK120 := n1_
            have BK121 := n2_
            have BK126 := n3_
            have BK127 := n4_
            have HB := n5_
            clear n0_ n1_ n2_ n3_ n4_ n5_
            (try clear hb)
            (try clear hb2)
            (try clear hk)
            (try clear hi)
            refine hK.out _ _ ⟨(blk_cell BK119.out 0).trans rfl, (blk_cell BK119.out 1).trans rfl, (blk_cell BK120.out 0).trans rfl, (blk_cell BK120.out 1).trans rfl⟩ (fun hHeld => ?_)
            clear hK K
            refine norm_ (a' := ?_) ?_ ?_
            rotate_left
            · show Act.put _ (some 41) _ = _
              simp only [Act.put, List.setIfInBounds_toArray, List.set_cons_zero, List.set_cons_succ, i64_w, i32_w]
              rfl
            refine one_ (i := 3) (N := some 43) #[true, true, true, true, false, false] rfl rfl (by kernel_rfl) (by decide) (fun K hK => ?_)
            refine goes_ Try.func36 (by kernel_rfl) rfl #[.agg #[.int .u64 x121000_1, .int .u64 x121001_1], .int .i64 1] (by rfl) rfl rfl (by (try simp only [List.map_toArray, List.map_cons, List.map_nil]); first | done | rfl) ?_
            with_reducible refine (tnum_Lsh.calls x121000_1 x121001_1 1 t132 t133 _ A30.out).mono ?_
            rintro e w38 ⟨rfl, hb⟩
            refine ⟨_, rfl, ?_⟩
            have n0_ := Aside0.mk (blk_below (g := gb119) (o := .cells #[.int .u64 x120000_1, .int .u64 x120001_1] 24 (0, 0)) (by (with_reducible repeat (first | apply bN_3 | apply bD_3 | apply bA_3)); exact BK119.out) hb)
            have n1_ := Aside0.mk (blk_below (g := gb120) (o := .cells #[.int .u64 x121000_1, .int .u64 x121001_1] 24 (0, 0)) (by (with_reducible repeat (first | apply bN_3 | apply bD_3 | apply bA_3)); exact BK120.out) hb)
            have n2_ := Aside0.mk (blk_below (g := gb121) (o := .cells #[.int .u64 0, .int .u64 0] 24 (0, 0)) (by (with_reducible repeat (first | apply bN_3 | apply bD_3 | apply bA_3)); exact BK121.out) hb)
            have n3_ := Aside0.mk (blk_below (g := gb126) (o := .cells #[.int .u64 t122, .int .u64 t123] 24 (0, 0)) (by (with_reducible repeat (first | apply bN_3 | apply bD_3 | apply bA_3)); exact BK126.out) hb)
            have n4_ := Aside0.mk (blk_below (g := gb127) (o := .cells #[.int .u64 x128000_1, .int .u64 x128001_1] 24 (0, 0)) (by (with_reducible repeat (first | apply bN_3 | apply bD_3 | apply bA_3)); exact BK127.out) hb)
            have n5_ := Aside0.mk (below_step (by repeat (first | (with_reducible first | exact HB.out | apply lA_3 | apply lN_3 | apply lD_3 | refine lS_3 ?_ GE119.out | refine lS_3 ?_ GE120.out | refine lS_3 ?_ GE121.out | refine lS_3 ?_ GE126.out | refine lS_3 ?_ GE127.out) | exact HB.out)) hb)
            clear BK119
            clear BK120
            clear BK121
            clear BK126
            clear BK127
            clear HB
            have BK119 := n0_
            have BK120 := n1_
            have BK121 := n2_
            have BK126 := n3_
            have BK127 := n4_
            have HB := n5_
            clear n0_ n1_ n2_ n3_ n4_ n5_
            (try clear hb)
            (try clear hb2)
            (try clear hk)
            (try clear hi)
            refine hK.out _ _ ⟨(blk_cell BK119.out 0).trans rfl, (blk_cell BK119.out 1).trans rfl, (blk_cell BK120.out 0).trans rfl, (blk_cell BK120.out 1).trans rfl⟩ (fun hHeld => ?_)
            clear hK K
            refine norm_ (a' := ?_) ?_ ?_
            rotate_left
            · show Act.put _ (some 43) _ = _
              simp only [Act.put, List.setIfInBounds_toArray, List.set_cons_zero, List.set_cons_succ, i64_w, i32_w]
              rfl
            refine last_ (i := 4) (N := none) #[true, true, true, true, true, false] rfl rfl (by kernel_rfl) (by decide) (fun K hK => ?_)
            have hs39 : w38.cell? ⟨gb119, 0, none⟩ = some (.int .u64 x120000_1) := (blk_cell BK119.out 0).trans rfl
            have hfs39 := blk_frozen BK119.out 0
            have hns39_1 := NB120_119.out
            have hns39_2 := NB121_119.out
            have hns39_3 := NB126_119.out
            have hns39_4 := NB127_119.out
            have hms39_1 := NB119_120.out
            have hms39_2 := NB119_121.out
            have hms39_3 := NB119_126.out
            have hms39_4 := NB119_127.out
            have hs40 : w38.cell? ⟨gb119, 1, none⟩ = some (.int .u64 x120001_1) := (blk_cell BK119.out 1).trans rfl
            have hfs40 := blk_frozen BK119.out 1
            have hns40_1 := NB120_119.out
            have hns40_2 := NB121_119.out
            have hns40_3 := NB126_119.out
            have hns40_4 := NB127_119.out
            have hms40_1 := NB119_120.out
            have hms40_2 := NB119_121.out
            have hms40_3 := NB119_126.out
            have hms40_4 := NB119_127.out
            refine skip_ (w1 := ?_) (by rfl) rfl ?_ ?_
            rotate_left
            · go_simp
              rfl
            refine hK.out _ _ ?_
            clear hK K
            refine last_ (i := 5) (N := none) #[true, true, true, true, true, true] rfl rfl (by kernel_rfl) (by decide) (fun K hK => ?_)
            have hs41 : w38.cell? ⟨gb120, 0, none⟩ = some (.int .u64 x121000_1) := (blk_cell BK120.out 0).trans rfl
            have hfs41 := blk_frozen BK120.out 0
            have hns41_0 := NB119_120.out
            have hns41_2 := NB121_120.out
            have hns41_3 := NB126_120.out
            have hns41_4 := NB127_120.out
            have hms41_0 := NB120_119.out
            have hms41_2 := NB120_121.out
            have hms41_3 := NB120_126.out
            have hms41_4 := NB120_127.out
            have hs42 : w38.cell? ⟨gb120, 1, none⟩ = some (.int .u64 x121001_1) := (blk_cell BK120.out 1).trans rfl
            have hfs42 := blk_frozen BK120.out 1
            have hns42_0 := NB119_120.out
            have hns42_2 := NB121_120.out
            have hns42_3 := NB126_120.out
            have hns42_4 := NB127_120.out
            have hms42_0 := NB120_119.out
            have hms42_2 := NB120_121.out
            have hms42_3 := NB120_126.out
            have hms42_4 := NB120_127.out
            refine skip_ (w1 := ?_) (by rfl) rfl ?_ ?_
            rotate_left
            · go_simp
              rfl
            refine hK.out _ _ ?_
            clear hK K
            refine done_ (by kernel_rfl) ?_
            try go_wp2
            go_roundg k1
            case measure => have := HK1.out; omega
            case rel => exact ⟨(t130), (t131), (t132), (t133), (x128000_1), (x128001_1), H', ⟨by have := HK1.out; omega⟩, ⟨by (with_reducible repeat (first | apply bN_3 | apply bD_3 | apply bA_3)); refine blk_far ?_ NB119_120.out _; (with_reducible repeat (first | apply bN_3 | apply bD_3 | apply bA_3)); refine blk_far ?_ NB119_120.out _; (with_reducible repeat (first | apply bN_3 | apply bD_3 | apply bA_3)); refine blk_put (cs := #[.int .u64 t130, .int .u64 x120001_1]) ?_ 1 _ rfl; (with_reducible repeat (first | apply bN_3 | apply bD_3 | apply bA_3)); refine blk_put (cs := #[.int .u64 x120000_1, .int .u64 x120001_1]) ?_ 0 _ rfl; (with_reducible repeat (first | apply bN_3 | apply bD_3 | apply bA_3)); exact BK119.out⟩, ⟨by (with_reducible repeat (first | apply bN_3 | apply bD_3 | apply bA_3)); refine blk_put (cs := #[.int .u64 t132, .int .u64 x121001_1]) ?_ 1 _ rfl; (with_reducible repeat (first | apply bN_3 | apply bD_3 | apply bA_3)); refine blk_put (cs := #[.int .u64 x121000_1, .int .u64 x121001_1]) ?_ 0 _ rfl; (with_reducible repeat (first | apply bN_3 | apply bD_3 | apply bA_3)); refine blk_far ?_ NB120_119.out _; (with_reducible repeat (first | apply bN_3 | apply bD_3 | apply bA_3)); refine blk_far ?_ NB120_119.out _; (with_reducible repeat (first | apply bN_3 | apply bD_3 | apply bA_3)); exact BK120.out⟩, ⟨by (with_reducible repeat (first | apply bN_3 | apply bD_3 | apply bA_3)); refine blk_far ?_ NB121_120.out _; (with_reducible repeat (first | apply bN_3 | apply bD_3 | apply bA_3)); refine blk_far ?_ NB121_120.out _; (with_reducible repeat (first | apply bN_3 | apply bD_3 | apply bA_3)); refine blk_far ?_ NB121_119.out _; (with_reducible repeat (first | apply bN_3 | apply bD_3 | apply bA_3)); refine blk_far ?_ NB121_119.out _; (with_reducible repeat (first | apply bN_3 | apply bD_3 | apply bA_3)); exact BK121.out⟩, ⟨by (with_reducible repeat (first | apply bN_3 | apply bD_3 | apply bA_3)); refine blk_far ?_ NB126_120.out _; (with_reducible repeat (first | apply bN_3 | apply bD_3 | apply bA_3)); refine blk_far ?_ NB126_120.out _; (with_reducible repeat (first | apply bN_3 | apply bD_3 | apply bA_3)); refine blk_far ?_ NB126_119.out _; (with_reducible repeat (first | apply bN_3 | apply bD_3 | apply bA_3)); refine blk_far ?_ NB126_119.out _; (with_reducible repeat (first | apply bN_3 | apply bD_3 | apply bA_3)); exact BK126.out⟩, ⟨by (with_reducible repeat (first | apply bN_3 | apply bD_3 | apply bA_3)); refine blk_far ?_ NB127_120.out _; (with_reducible repeat (first | apply bN_3 | apply bD_3 | apply bA_3)); refine blk_far ?_ NB127_120.out _; (with_reducible repeat (first | apply bN_3 | apply bD_3 | apply bA_3)); refine blk_far ?_ NB127_119.out _; (with_reducible repeat (first | apply bN_3 | apply bD_3 | apply bA_3)); refine blk_far ?_ NB127_119.out _; (with_reducible repeat (first | apply bN_3 | apply bD_3 | apply bA_3)); exact BK127.out⟩, ⟨by repeat (first | (with_reducible first | exact HB.out | apply lA_3 | apply lN_3 | apply lD_3 | refine lS_3 ?_ GE119.out | refine lS_3 ?_ GE120.out | refine lS_3 ?_ GE121.out | refine lS_3 ?_ GE126.out | refine lS_3 ?_ GE127.out) | exact HB.out)⟩⟩
          · rw [if_neg c28] at H
            have c28b0 : ((Go.bits .and .u64 x120001_1 1) == 0) = false := beq_eq_false_iff_ne.mpr c28
            have c28b1 : ((Go.bits .and .u64 x120001_1 1) != 0) = true := bne_iff_ne.mpr c28
            replace H := Option.bind_eq_some_iff.mp H
            obtain ⟨⟨t134, t135⟩, A430, H⟩ := H
            replace H : ((tnum_Rsh.f x120000_1 x120001_1 1).bind fun bt136 => ((tnum_Lsh.f x121000_1 x121001_1 1).bind fun bt138 => (tnum_Mul.l0 k1 bt136.1 bt136.2 bt138.1 bt138.2 t122 t123 t134 t135))) = some (r1, r2) := H
            have A43 := Aside0.mk A430
            clear A430
            replace H := Option.bind_eq_some_iff.mp H
            obtain ⟨⟨t136, t137⟩, A440, H⟩ := H
            replace H : ((tnum_Lsh.f x121000_1 x121001_1 1).bind fun bt138 => (tnum_Mul.l0 k1 t136 t137 bt138.1 bt138.2 t122 t123 t134 t135)) = some (r1, r2) := H
            have A44 := Aside0.mk A440
            clear A440
            replace H := Option.bind_eq_some_iff.mp H
            obtain ⟨⟨t138, t139⟩, A450, H⟩ := H
            replace H : (tnum_Mul.l0 k1 t136 t137 t138 t139 t122 t123 t134 t135) = some (r1, r2) := H
            have A45 := Aside0.mk A450
            clear A450
            have H' := Aside0.mk H
            clear H
            have hnb46 := NB119_120.out
            have hnc46 := NB120_119.out
            have hnb47 := NB119_121.out
            have hnc47 := NB121_119.out
            have hnb48 := NB119_126.out
            have hnc48 := NB126_119.out
            have hnb49 := NB119_127.out
            have hnc49 := NB127_119.out
            have hcz50_0 : wr.cell? ⟨gb119, 0, none⟩ = some (.int .u64 x120000_1) := (blk_cell BK119.out 0).trans rfl
            have hcz50_1 : wr.cell? ⟨gb119, 1, none⟩ = some (.int .u64 x120001_1) := (blk_cell BK119.out 1).trans rfl
            have hfz50_0 := blk_frozen BK119.out 0
            have hfz50_1 := blk_frozen BK119.out 1
            have hnb51 := NB127_120.out
            have hnc51 := NB120_127.out
            have hnb52 := NB127_121.out
            have hnc52 := NB121_127.out
            have hnb53 := NB127_126.out
            have hnc53 := NB126_127.out
            have hcz54_0 : wr.cell? ⟨gb127, 0, none⟩ = some (.int .u64 x128000_1) := (blk_cell BK127.out 0).trans rfl
            have hcz54_1 : wr.cell? ⟨gb127, 1, none⟩ = some (.int .u64 x128001_1) := (blk_cell BK127.out 1).trans rfl
            have hfz54_0 := blk_frozen BK127.out 0
            have hfz54_1 := blk_frozen BK127.out 1
            have hnb55 := NB120_121.out
            have hnc55 := NB121_120.out
            have hnb56 := NB120_126.out
            have hnc56 := NB126_120.out
            have hcz57_0 : wr.cell? ⟨gb120, 0, none⟩ = some (.int .u64 x121000_1) := (blk_cell BK120.out 0).trans rfl
            have hcz57_1 : wr.cell? ⟨gb120, 1, none⟩ = some (.int .u64 x121001_1) := (blk_cell BK120.out 1).trans rfl
            have hfz57_0 := blk_frozen BK120.out 0
            have hfz57_1 := blk_frozen BK120.out 1
            try go_wp2_with (first | ((with_reducible refine gate_callee (f := 17) rfl ?_); refine goesL_ (some 39) rfl rfl Try.func17 (by kernel_rfl) rfl #[.agg #[.int .u64 x128000_1, .int .u64 x128001_1], .agg #[.int .u64 0, .int .u64 (Go.bits .or .u64 x121000_1 x121001_1)]] rfl (by (try simp only [List.map_toArray, List.map_cons, List.map_nil]); first | done | rfl) ?_; (with_reducible refine (tnum_Add.calls x128000_1 x128001_1 0 (Go.bits .or .u64 x121000_1 x121001_1) t134 t135 _ A43.out).mono ?_); rintro e w58 ⟨rfl, hb⟩; refine ⟨_, rfl, ?_⟩; have n0_ := Aside0.mk (blk_below (g := gb119) (o := .cells #[.int .u64 x120000_1, .int .u64 x120001_1] 24 (0, 0)) (by (with_reducible repeat (first | apply bN_3 | apply bD_3 | apply bA_3)); exact BK119.out) hb); have n1_ := Aside0.mk (blk_below (g := gb120) (o := .cells #[.int .u64 x121000_1, .int .u64 x121001_1] 24 (0, 0)) (by (with_reducible repeat (first | apply bN_3 | apply bD_3 | apply bA_3)); exact BK120.out) hb); have n2_ := Aside0.mk (blk_below (g := gb121) (o := .cells #[.int .u64 0, .int .u64 0] 24 (0, 0)) (by (with_reducible repeat (first | apply bN_3 | apply bD_3 | apply bA_3)); exact BK121.out) hb); have n3_ := Aside0.mk (blk_below (g := gb126) (o := .cells #[.int .u64 t122, .int .u64 t123] 24 (0, 0)) (by (with_reducible repeat (first | apply bN_3 | apply bD_3 | apply bA_3)); exact BK126.out) hb); have n4_ := Aside0.mk (blk_below (g := gb127) (o := .cells #[.int .u64 x128000_1, .int .u64 x128001_1] 24 (0, 0)) (by (with_reducible repeat (first | apply bN_3 | apply bD_3 | apply bA_3)); exact BK127.out) hb); have n5_ := Aside0.mk (below_step (by repeat (first | (with_reducible first | exact HB.out | apply lA_3 | apply lN_3 | apply lD_3 | refine lS_3 ?_ GE119.out | refine lS_3 ?_ GE120.out | refine lS_3 ?_ GE121.out | refine lS_3 ?_ GE126.out | refine lS_3 ?_ GE127.out) | exact HB.out)) hb); clear BK119; clear BK120; clear BK121; clear BK126; clear BK127; clear HB; have BK119 := n0_; have BK120 := n1_; have BK121 := n2_; have BK126 := n3_; have BK127 := n4_; have HB := n5_; clear n0_ n1_ n2_ n3_ n4_ n5_; (try clear hb); (try clear hb2); (try clear hk); (try clear hi); have hcz59_0 : w58.cell? ⟨gb127, 0, none⟩ = some (.int .u64 x128000_1) := (blk_cell BK127.out 0).trans rfl; have hcz59_1 : w58.cell? ⟨gb127, 1, none⟩ = some (.int .u64 x128001_1) := (blk_cell BK127.out 1).trans rfl; have hfz59_0 := blk_frozen BK127.out 0; have hfz59_1 := blk_frozen BK127.out 1))
            have n0_ : Aside0 (((w58.setCell ⟨gb127, 0, none⟩ (.int .u64 t134)).setCell ⟨gb127, 1, none⟩ (.int .u64 t135)).heap[gb119]? = some (.cells #[.int .u64 x120000_1, .int .u64 x120001_1] 24 (0, 0))) := ⟨by (with_reducible repeat (first | apply bN_3 | apply bD_3 | apply bA_3)); refine blk_far ?_ NB119_127.out _; (with_reducible repeat (first | apply bN_3 | apply bD_3 | apply bA_3)); refine blk_far ?_ NB119_127.out _; (with_reducible repeat (first | apply bN_3 | apply bD_3 | apply bA_3)); exact BK119.out⟩
            have n1_ : Aside0 (((w58.setCell ⟨gb127, 0, none⟩ (.int .u64 t134)).setCell ⟨gb127, 1, none⟩ (.int .u64 t135)).heap[gb120]? = some (.cells #[.int .u64 x121000_1, .int .u64 x121001_1] 24 (0, 0))) := ⟨by (with_reducible repeat (first | apply bN_3 | apply bD_3 | apply bA_3)); refine blk_far ?_ NB120_127.out _; (with_reducible repeat (first | apply bN_3 | apply bD_3 | apply bA_3)); refine blk_far ?_ NB120_127.out _; (with_reducible repeat (first | apply bN_3 | apply bD_3 | apply bA_3)); exact BK120.out⟩
            have n2_ : Aside0 (((w58.setCell ⟨gb127, 0, none⟩ (.int .u64 t134)).setCell ⟨gb127, 1, none⟩ (.int .u64 t135)).heap[gb121]? = some (.cells #[.int .u64 0, .int .u64 0] 24 (0, 0))) := ⟨by (with_reducible repeat (first | apply bN_3 | apply bD_3 | apply bA_3)); refine blk_far ?_ NB121_127.out _; (with_reducible repeat (first | apply bN_3 | apply bD_3 | apply bA_3)); refine blk_far ?_ NB121_127.out _; (with_reducible repeat (first | apply bN_3 | apply bD_3 | apply bA_3)); exact BK121.out⟩
            have n3_ : Aside0 (((w58.setCell ⟨gb127, 0, none⟩ (.int .u64 t134)).setCell ⟨gb127, 1, none⟩ (.int .u64 t135)).heap[gb126]? = some (.cells #[.int .u64 t122, .int .u64 t123] 24 (0, 0))) := ⟨by (with_reducible repeat (first | apply bN_3 | apply bD_3 | apply bA_3)); refine blk_far ?_ NB126_127.out _; (with_reducible repeat (first | apply bN_3 | apply bD_3 | apply bA_3)); refine blk_far ?_ NB126_127.out _; (with_reducible repeat (first | apply bN_3 | apply bD_3 | apply bA_3)); exact BK126.out⟩
            have n4_ : Aside0 (((w58.setCell ⟨gb127, 0, none⟩ (.int .u64 t134)).setCell ⟨gb127, 1, none⟩ (.int .u64 t135)).heap[gb127]? = some (.cells #[.int .u64 t134, .int .u64 t135] 24 (0, 0))) := ⟨by (with_reducible repeat (first | apply bN_3 | apply bD_3 | apply bA_3)); refine blk_put (cs := #[.int .u64 t134, .int .u64 x128001_1]) ?_ 1 _ rfl; (with_reducible repeat (first | apply bN_3 | apply bD_3 | apply bA_3)); refine blk_put (cs := #[.int .u64 x128000_1, .int .u64 x128001_1]) ?_ 0 _ rfl; (with_reducible repeat (first | apply bN_3 | apply bD_3 | apply bA_3)); exact BK127.out⟩
            have n5_ : Aside0 (Below w.heap.size w ((w58.setCell ⟨gb127, 0, none⟩ (.int .u64 t134)).setCell ⟨gb127, 1, none⟩ (.int .u64 t135))) := ⟨by repeat (first | (with_reducible first | exact HB.out | apply lA_3 | apply lN_3 | apply lD_3 | refine lS_3 ?_ GE119.out | refine lS_3 ?_ GE120.out | refine lS_3 ?_ GE121.out | refine lS_3 ?_ GE126.out | refine lS_3 ?_ GE127.out) | exact HB.out)⟩
            (try clear BK119)
            (try clear BK120)
            (try clear BK121)
            (try clear BK126)
            (try clear BK127)
            (try clear HB)
            generalize ((w58.setCell ⟨gb127, 0, none⟩ (.int .u64 t134)).setCell ⟨gb127, 1, none⟩ (.int .u64 t135)) = w60 at n0_ n1_ n2_ n3_ n4_ n5_ ⊢
            have BK119 := n0_
            have BK120 := n1_
            have BK121 := n2_
            have BK126 := n3_
            have BK127 := n4_
            have HB := n5_
            clear n0_ n1_ n2_ n3_ n4_ n5_
            have n0_ := Aside0.mk (blk_drew BK119.out)
            have n1_ := Aside0.mk (blk_drew BK120.out)
            have n2_ := Aside0.mk (blk_drew BK121.out)
            have n3_ := Aside0.mk (blk_drew BK126.out)
            have n4_ := Aside0.mk (blk_drew BK127.out)
            have n5_ := Aside0.mk (below_drew1 HB.out)
            clear BK119
            clear BK120
            clear BK121
            clear BK126
            clear BK127
            clear HB
            have BK119 := n0_
            have BK120 := n1_
            have BK121 := n2_
            have BK126 := n3_
            have BK127 := n4_
            have HB := n5_
            clear n0_ n1_ n2_ n3_ n4_ n5_
            refine start_ (n := 6) (S := fun w' => w'.cell? ⟨gb119, 0, none⟩ = some (.int .u64 x120000_1) ∧ w'.cell? ⟨gb119, 1, none⟩ = some (.int .u64 x120001_1) ∧ w'.cell? ⟨gb120, 0, none⟩ = some (.int .u64 x121000_1) ∧ w'.cell? ⟨gb120, 1, none⟩ = some (.int .u64 x121001_1)) (ds := [4, 5]) #[false, false, false, false, false, false] (by kernel_rfl) rfl rfl ⟨(blk_cell BK119.out 0).trans rfl, (blk_cell BK119.out 1).trans rfl, (blk_cell BK120.out 0).trans rfl, (blk_cell BK120.out 1).trans rfl⟩ (fun hHeld => ?_)
            generalize w60.drew = w61 at BK119 BK120 BK121 BK126 BK127 HB hHeld ⊢
            refine take_ (i := 0) (N := some 40) (v := ?_) (a' := ?_) #[true, false, false, false, false, false] rfl rfl (by kernel_rfl) (fun _ _ _ h => h) (Or.inl ⟨by rfl, ?_⟩) hHeld ?_ ?_
            rotate_left
            · rintro w' ⟨s0, s1, s2, s3⟩
              go_simp
              with_reducible rfl
            rotate_left
            · simp only [Act.put, List.setIfInBounds_toArray, List.set_cons_zero, List.set_cons_succ, i64_w, i32_w]
              rfl
            refine take_ (i := 2) (N := some 42) (v := ?_) (a' := ?_) #[true, false, true, false, false, false] rfl rfl (by kernel_rfl) (fun _ _ _ h => h) (Or.inl ⟨by rfl, ?_⟩) hHeld ?_ ?_
            rotate_left
            · rintro w' ⟨s0, s1, s2, s3⟩
              go_simp
              with_reducible rfl
            rotate_left
            · simp only [Act.put, List.setIfInBounds_toArray, List.set_cons_zero, List.set_cons_succ, i64_w, i32_w]
              rfl
            refine one_ (i := 1) (N := some 41) #[true, true, true, false, false, false] rfl rfl (by kernel_rfl) (by decide) (fun K hK => ?_)
            refine goes_ Try.func42 (by kernel_rfl) rfl #[.agg #[.int .u64 x120000_1, .int .u64 x120001_1], .int .i64 1] (by rfl) rfl rfl (by (try simp only [List.map_toArray, List.map_cons, List.map_nil]); first | done | rfl) ?_
            with_reducible refine (tnum_Rsh.calls x120000_1 x120001_1 1 t136 t137 _ A44.out).mono ?_
            rintro e w62 ⟨rfl, hb⟩
            refine ⟨_, rfl, ?_⟩
            have n0_ := Aside0.mk (blk_below (g := gb119) (o := .cells #[.int .u64 x120000_1, .int .u64 x120001_1] 24 (0, 0)) (by (with_reducible repeat (first | apply bN_3 | apply bD_3 | apply bA_3)); exact BK119.out) hb)
            have n1_ := Aside0.mk (blk_below (g := gb120) (o := .cells #[.int .u64 x121000_1, .int .u64 x121001_1] 24 (0, 0)) (by (with_reducible repeat (first | apply bN_3 | apply bD_3 | apply bA_3)); exact BK120.out) hb)
            have n2_ := Aside0.mk (blk_below (g := gb121) (o := .cells #[.int .u64 0, .int .u64 0] 24 (0, 0)) (by (with_reducible repeat (first | apply bN_3 | apply bD_3 | apply bA_3)); exact BK121.out) hb)
            have n3_ := Aside0.mk (blk_below (g := gb126) (o := .cells #[.int .u64 t122, .int .u64 t123] 24 (0, 0)) (by (with_reducible repeat (first | apply bN_3 | apply bD_3 | apply bA_3)); exact BK126.out) hb)
            have n4_ := Aside0.mk (blk_below (g := gb127) (o := .cells #[.int .u64 t134, .int .u64 t135] 24 (0, 0)) (by (with_reducible repeat (first | apply bN_3 | apply bD_3 | apply bA_3)); exact BK127.out) hb)
            have n5_ := Aside0.mk (below_step (by repeat (first | (with_reducible first | exact HB.out | apply lA_3 | apply lN_3 | apply lD_3 | refine lS_3 ?_ GE119.out | refine lS_3 ?_ GE120.out | refine lS_3 ?_ GE121.out | refine lS_3 ?_ GE126.out | refine lS_3 ?_ GE127.out) | exact HB.out)) hb)
            clear BK119
            clear BK120
            clear BK121
            clear BK126
            clear BK127
            clear HB
            have BK119 := n0_
            have BK120 := n1_
            have BK121 := n2_
            have BK126 := n3_
            have BK127 := n4_
            have HB := n5_
            clear n0_ n1_ n2_ n3_ n4_ n5_
            (try clear hb)
            (try clear hb2)
            (try clear hk)
            (try clear hi)
            refine hK.out _ _ ⟨(blk_cell BK119.out 0).trans rfl, (blk_cell BK119.out 1).trans rfl, (blk_cell BK120.out 0).trans rfl, (blk_cell BK120.out 1).trans rfl⟩ (fun hHeld => ?_)
            clear hK K
            refine norm_ (a' := ?_) ?_ ?_
            rotate_left
            · show Act.put _ (some 41) _ = _
              simp only [Act.put, List.setIfInBounds_toArray, List.set_cons_zero, List.set_cons_succ, i64_w, i32_w]
              rfl
            refine one_ (i := 3) (N := some 43) #[true, true, true, true, false, false] rfl rfl (by kernel_rfl) (by decide) (fun K hK => ?_)
            refine goes_ Try.func36 (by kernel_rfl) rfl #[.agg #[.int .u64 x121000_1, .int .u64 x121001_1], .int .i64 1] (by rfl) rfl rfl (by (try simp only [List.map_toArray, List.map_cons, List.map_nil]); first | done | rfl) ?_
            with_reducible refine (tnum_Lsh.calls x121000_1 x121001_1 1 t138 t139 _ A45.out).mono ?_
            rintro e w63 ⟨rfl, hb⟩
            refine ⟨_, rfl, ?_⟩
            have n0_ := Aside0.mk (blk_below (g := gb119) (o := .cells #[.int .u64 x120000_1, .int .u64 x120001_1] 24 (0, 0)) (by (with_reducible repeat (first | apply bN_3 | apply bD_3 | apply bA_3)); exact BK119.out) hb)
            have n1_ := Aside0.mk (blk_below (g := gb120) (o := .cells #[.int .u64 x121000_1, .int .u64 x121001_1] 24 (0, 0)) (by (with_reducible repeat (first | apply bN_3 | apply bD_3 | apply bA_3)); exact BK120.out) hb)
            have n2_ := Aside0.mk (blk_below (g := gb121) (o := .cells #[.int .u64 0, .int .u64 0] 24 (0, 0)) (by (with_reducible repeat (first | apply bN_3 | apply bD_3 | apply bA_3)); exact BK121.out) hb)
            have n3_ := Aside0.mk (blk_below (g := gb126) (o := .cells #[.int .u64 t122, .int .u64 t123] 24 (0, 0)) (by (with_reducible repeat (first | apply bN_3 | apply bD_3 | apply bA_3)); exact BK126.out) hb)
            have n4_ := Aside0.mk (blk_below (g := gb127) (o := .cells #[.int .u64 t134, .int .u64 t135] 24 (0, 0)) (by (with_reducible repeat (first | apply bN_3 | apply bD_3 | apply bA_3)); exact BK127.out) hb)
            have n5_ := Aside0.mk (below_step (by repeat (first | (with_reducible first | exact HB.out | apply lA_3 | apply lN_3 | apply lD_3 | refine lS_3 ?_ GE119.out | refine lS_3 ?_ GE120.out | refine lS_3 ?_ GE121.out | refine lS_3 ?_ GE126.out | refine lS_3 ?_ GE127.out) | exact HB.out)) hb)
            clear BK119
            clear BK120
            clear BK121
            clear BK126
            clear BK127
            clear HB
            have BK119 := n0_
            have BK120 := n1_
            have BK121 := n2_
            have BK126 := n3_
            have BK127 := n4_
            have HB := n5_
            clear n0_ n1_ n2_ n3_ n4_ n5_
            (try clear hb)
            (try clear hb2)
            (try clear hk)
            (try clear hi)
            refine hK.out _ _ ⟨(blk_cell BK119.out 0).trans rfl, (blk_cell BK119.out 1).trans rfl, (blk_cell BK120.out 0).trans rfl, (blk_cell BK120.out 1).trans rfl⟩ (fun hHeld => ?_)
            clear hK K
            refine norm_ (a' := ?_) ?_ ?_
            rotate_left
            · show Act.put _ (some 43) _ = _
              simp only [Act.put, List.setIfInBounds_toArray, List.set_cons_zero, List.set_cons_succ, i64_w, i32_w]
              rfl
            refine last_ (i := 4) (N := none) #[true, true, true, true, true, false] rfl rfl (by kernel_rfl) (by decide) (fun K hK => ?_)
            have hs64 : w63.cell? ⟨gb119, 0, none⟩ = some (.int .u64 x120000_1) := (blk_cell BK119.out 0).trans rfl
            have hfs64 := blk_frozen BK119.out 0
            have hns64_1 := NB120_119.out
            have hns64_2 := NB121_119.out
            have hns64_3 := NB126_119.out
            have hns64_4 := NB127_119.out
            have hms64_1 := NB119_120.out
            have hms64_2 := NB119_121.out
            have hms64_3 := NB119_126.out
            have hms64_4 := NB119_127.out
            have hs65 : w63.cell? ⟨gb119, 1, none⟩ = some (.int .u64 x120001_1) := (blk_cell BK119.out 1).trans rfl
            have hfs65 := blk_frozen BK119.out 1
            have hns65_1 := NB120_119.out
            have hns65_2 := NB121_119.out
            have hns65_3 := NB126_119.out
            have hns65_4 := NB127_119.out
            have hms65_1 := NB119_120.out
            have hms65_2 := NB119_121.out
            have hms65_3 := NB119_126.out
            have hms65_4 := NB119_127.out
            refine skip_ (w1 := ?_) (by rfl) rfl ?_ ?_
            rotate_left
            · go_simp
              rfl
            refine hK.out _ _ ?_
            clear hK K
            refine last_ (i := 5) (N := none) #[true, true, true, true, true, true] rfl rfl (by kernel_rfl) (by decide) (fun K hK => ?_)
            have hs66 : w63.cell? ⟨gb120, 0, none⟩ = some (.int .u64 x121000_1) := (blk_cell BK120.out 0).trans rfl
            have hfs66 := blk_frozen BK120.out 0
            have hns66_0 := NB119_120.out
            have hns66_2 := NB121_120.out
            have hns66_3 := NB126_120.out
            have hns66_4 := NB127_120.out
            have hms66_0 := NB120_119.out
            have hms66_2 := NB120_121.out
            have hms66_3 := NB120_126.out
            have hms66_4 := NB120_127.out
            have hs67 : w63.cell? ⟨gb120, 1, none⟩ = some (.int .u64 x121001_1) := (blk_cell BK120.out 1).trans rfl
            have hfs67 := blk_frozen BK120.out 1
            have hns67_0 := NB119_120.out
            have hns67_2 := NB121_120.out
            have hns67_3 := NB126_120.out
            have hns67_4 := NB127_120.out
            have hms67_0 := NB120_119.out
            have hms67_2 := NB120_121.out
            have hms67_3 := NB120_126.out
            have hms67_4 := NB120_127.out
            refine skip_ (w1 := ?_) (by rfl) rfl ?_ ?_
            rotate_left
            · go_simp
              rfl
            refine hK.out _ _ ?_
            clear hK K
            refine done_ (by kernel_rfl) ?_
            try go_wp2
            go_roundg k1
            case measure => have := HK1.out; omega
            case rel => exact ⟨(t136), (t137), (t138), (t139), (t134), (t135), H', ⟨by have := HK1.out; omega⟩, ⟨by (with_reducible repeat (first | apply bN_3 | apply bD_3 | apply bA_3)); refine blk_far ?_ NB119_120.out _; (with_reducible repeat (first | apply bN_3 | apply bD_3 | apply bA_3)); refine blk_far ?_ NB119_120.out _; (with_reducible repeat (first | apply bN_3 | apply bD_3 | apply bA_3)); refine blk_put (cs := #[.int .u64 t136, .int .u64 x120001_1]) ?_ 1 _ rfl; (with_reducible repeat (first | apply bN_3 | apply bD_3 | apply bA_3)); refine blk_put (cs := #[.int .u64 x120000_1, .int .u64 x120001_1]) ?_ 0 _ rfl; (with_reducible repeat (first | apply bN_3 | apply bD_3 | apply bA_3)); exact BK119.out⟩, ⟨by (with_reducible repeat (first | apply bN_3 | apply bD_3 | apply bA_3)); refine blk_put (cs := #[.int .u64 t138, .int .u64 x121001_1]) ?_ 1 _ rfl; (with_reducible repeat (first | apply bN_3 | apply bD_3 | apply bA_3)); refine blk_put (cs := #[.int .u64 x121000_1, .int .u64 x121001_1]) ?_ 0 _ rfl; (with_reducible repeat (first | apply bN_3 | apply bD_3 | apply bA_3)); refine blk_far ?_ NB120_119.out _; (with_reducible repeat (first | apply bN_3 | apply bD_3 | apply bA_3)); refine blk_far ?_ NB120_119.out _; (with_reducible repeat (first | apply bN_3 | apply bD_3 | apply bA_3)); exact BK120.out⟩, ⟨by (with_reducible repeat (first | apply bN_3 | apply bD_3 | apply bA_3)); refine blk_far ?_ NB121_120.out _; (with_reducible repeat (first | apply bN_3 | apply bD_3 | apply bA_3)); refine blk_far ?_ NB121_120.out _; (with_reducible repeat (first | apply bN_3 | apply bD_3 | apply bA_3)); refine blk_far ?_ NB121_119.out _; (with_reducible repeat (first | apply bN_3 | apply bD_3 | apply bA_3)); refine blk_far ?_ NB121_119.out _; (with_reducible repeat (first | apply bN_3 | apply bD_3 | apply bA_3)); exact BK121.out⟩, ⟨by (with_reducible repeat (first | apply bN_3 | apply bD_3 | apply bA_3)); refine blk_far ?_ NB126_120.out _; (with_reducible repeat (first | apply bN_3 | apply bD_3 | apply bA_3)); refine blk_far ?_ NB126_120.out _; (with_reducible repeat (first | apply bN_3 | apply bD_3 | apply bA_3)); refine blk_far ?_ NB126_119.out _; (with_reducible repeat (first | apply bN_3 | apply bD_3 | apply bA_3)); refine blk_far ?_ NB126_119.out _; (with_reducible repeat (first | apply bN_3 | apply bD_3 | apply bA_3)); exact BK126.out⟩, ⟨by (with_reducible repeat (first | apply bN_3 | apply bD_3 | apply bA_3)); refine blk_far ?_ NB127_120.out _; (with_reducible repeat (first | apply bN_3 | apply bD_3 | apply bA_3)); refine blk_far ?_ NB127_120.out _; (with_reducible repeat (first | apply bN_3 | apply bD_3 | apply bA_3)); refine blk_far ?_ NB127_119.out _; (with_reducible repeat (first | apply bN_3 | apply bD_3 | apply bA_3)); refine blk_far ?_ NB127_119.out _; (with_reducible repeat (first | apply bN_3 | apply bD_3 | apply bA_3)); exact BK127.out⟩, ⟨by repeat (first | (with_reducible first | exact HB.out | apply lA_3 | apply lN_3 | apply lD_3 | refine lS_3 ?_ GE119.out | refine lS_3 ?_ GE120.out | refine lS_3 ?_ GE121.out | refine lS_3 ?_ GE126.out | refine lS_3 ?_ GE127.out) | exact HB.out)⟩⟩
        · rw [if_neg c27] at H
          have c27b0 : ((Go.bits .and .u64 x120000_1 1) == 0) = false := beq_eq_false_iff_ne.mpr c27
          have c27b1 : ((Go.bits .and .u64 x120000_1 1) != 0) = true := bne_iff_ne.mpr c27
          replace H := Option.bind_eq_some_iff.mp H
          obtain ⟨⟨t140, t141⟩, A680, H⟩ := H
          replace H : ((tnum_Rsh.f x120000_1 x120001_1 1).bind fun bt142 => ((tnum_Lsh.f x121000_1 x121001_1 1).bind fun bt144 => (tnum_Mul.l0 k1 bt142.1 bt142.2 bt144.1 bt144.2 t122 t123 t140 t141))) = some (r1, r2) := H
          have A68 := Aside0.mk A680
          clear A680
          replace H := Option.bind_eq_some_iff.mp H
          obtain ⟨⟨t142, t143⟩, A690, H⟩ := H
          replace H : ((tnum_Lsh.f x121000_1 x121001_1 1).bind fun bt144 => (tnum_Mul.l0 k1 t142 t143 bt144.1 bt144.2 t122 t123 t140 t141)) = some (r1, r2) := H
          have A69 := Aside0.mk A690
          clear A690
          replace H := Option.bind_eq_some_iff.mp H
          obtain ⟨⟨t144, t145⟩, A700, H⟩ := H
          replace H : (tnum_Mul.l0 k1 t142 t143 t144 t145 t122 t123 t140 t141) = some (r1, r2) := H
          have A70 := Aside0.mk A700
          clear A700
          have H' := Aside0.mk H
          clear H
          have hnb71 := NB119_120.out
          have hnc71 := NB120_119.out
          have hnb72 := NB119_121.out
          have hnc72 := NB121_119.out
          have hnb73 := NB119_126.out
          have hnc73 := NB126_119.out
          have hnb74 := NB119_127.out
          have hnc74 := NB127_119.out
          have hcz75_0 : wr.cell? ⟨gb119, 0, none⟩ = some (.int .u64 x120000_1) := (blk_cell BK119.out 0).trans rfl
          have hcz75_1 : wr.cell? ⟨gb119, 1, none⟩ = some (.int .u64 x120001_1) := (blk_cell BK119.out 1).trans rfl
          have hfz75_0 := blk_frozen BK119.out 0
          have hfz75_1 := blk_frozen BK119.out 1
          have hnb76 := NB127_120.out
          have hnc76 := NB120_127.out
          have hnb77 := NB127_121.out
          have hnc77 := NB121_127.out
          have hnb78 := NB127_126.out
          have hnc78 := NB126_127.out
          have hcz79_0 : wr.cell? ⟨gb127, 0, none⟩ = some (.int .u64 x128000_1) := (blk_cell BK127.out 0).trans rfl
          have hcz79_1 : wr.cell? ⟨gb127, 1, none⟩ = some (.int .u64 x128001_1) := (blk_cell BK127.out 1).trans rfl
          have hfz79_0 := blk_frozen BK127.out 0
          have hfz79_1 := blk_frozen BK127.out 1
          have hnb80 := NB120_121.out
          have hnc80 := NB121_120.out
          have hnb81 := NB120_126.out
          have hnc81 := NB126_120.out
          have hcz82_0 : wr.cell? ⟨gb120, 0, none⟩ = some (.int .u64 x121000_1) := (blk_cell BK120.out 0).trans rfl
          have hcz82_1 : wr.cell? ⟨gb120, 1, none⟩ = some (.int .u64 x121001_1) := (blk_cell BK120.out 1).trans rfl
          have hfz82_0 := blk_frozen BK120.out 0
          have hfz82_1 := blk_frozen BK120.out 1
          try go_wp2_with (first | ((with_reducible refine gate_callee (f := 17) rfl ?_); refine goesL_ (some 26) rfl rfl Try.func17 (by kernel_rfl) rfl #[.agg #[.int .u64 x128000_1, .int .u64 x128001_1], .agg #[.int .u64 0, .int .u64 x121001_1]] rfl (by (try simp only [List.map_toArray, List.map_cons, List.map_nil]); first | done | rfl) ?_; (with_reducible refine (tnum_Add.calls x128000_1 x128001_1 0 x121001_1 t140 t141 _ A68.out).mono ?_); rintro e w83 ⟨rfl, hb⟩; refine ⟨_, rfl, ?_⟩; have n0_ := Aside0.mk (blk_below (g := gb119) (o := .cells #[.int .u64 x120000_1, .int .u64 x120001_1] 24 (0, 0)) (by (with_reducible repeat (first | apply bN_3 | apply bD_3 | apply bA_3)); exact BK119.out) hb); have n1_ := Aside0.mk (blk_below (g := gb120) (o := .cells #[.int .u64 x121000_1, .int .u64 x121001_1] 24 (0, 0)) (by (with_reducible repeat (first | apply bN_3 | apply bD_3 | apply bA_3)); exact BK120.out) hb); have n2_ := Aside0.mk (blk_below (g := gb121) (o := .cells #[.int .u64 0, .int .u64 0] 24 (0, 0)) (by (with_reducible repeat (first | apply bN_3 | apply bD_3 | apply bA_3)); exact BK121.out) hb); have n3_ := Aside0.mk (blk_below (g := gb126) (o := .cells #[.int .u64 t122, .int .u64 t123] 24 (0, 0)) (by (with_reducible repeat (first | apply bN_3 | apply bD_3 | apply bA_3)); exact BK126.out) hb); have n4_ := Aside0.mk (blk_below (g := gb127) (o := .cells #[.int .u64 x128000_1, .int .u64 x128001_1] 24 (0, 0)) (by (with_reducible repeat (first | apply bN_3 | apply bD_3 | apply bA_3)); exact BK127.out) hb); have n5_ := Aside0.mk (below_step (by repeat (first | (with_reducible first | exact HB.out | apply lA_3 | apply lN_3 | apply lD_3 | refine lS_3 ?_ GE119.out | refine lS_3 ?_ GE120.out | refine lS_3 ?_ GE121.out | refine lS_3 ?_ GE126.out | refine lS_3 ?_ GE127.out) | exact HB.out)) hb); clear BK119; clear BK120; clear BK121; clear BK126; clear BK127; clear HB; have BK119 := n0_; have BK120 := n1_; have BK121 := n2_; have BK126 := n3_; have BK127 := n4_; have HB := n5_; clear n0_ n1_ n2_ n3_ n4_ n5_; (try clear hb); (try clear hb2); (try clear hk); (try clear hi); have hcz84_0 : w83.cell? ⟨gb127, 0, none⟩ = some (.int .u64 x128000_1) := (blk_cell BK127.out 0).trans rfl; have hcz84_1 : w83.cell? ⟨gb127, 1, none⟩ = some (.int .u64 x128001_1) := (blk_cell BK127.out 1).trans rfl; have hfz84_0 := blk_frozen BK127.out 0; have hfz84_1 := blk_frozen BK127.out 1))
          have n0_ : Aside0 (((w83.setCell ⟨gb127, 0, none⟩ (.int .u64 t140)).setCell ⟨gb127, 1, none⟩ (.int .u64 t141)).heap[gb119]? = some (.cells #[.int .u64 x120000_1, .int .u64 x120001_1] 24 (0, 0))) := ⟨by (with_reducible repeat (first | apply bN_3 | apply bD_3 | apply bA_3)); refine blk_far ?_ NB119_127.out _; (with_reducible repeat (first | apply bN_3 | apply bD_3 | apply bA_3)); refine blk_far ?_ NB119_127.out _; (with_reducible repeat (first | apply bN_3 | apply bD_3 | apply bA_3)); exact BK119.out⟩
          have n1_ : Aside0 (((w83.setCell ⟨gb127, 0, none⟩ (.int .u64 t140)).setCell ⟨gb127, 1, none⟩ (.int .u64 t141)).heap[gb120]? = some (.cells #[.int .u64 x121000_1, .int .u64 x121001_1] 24 (0, 0))) := ⟨by (with_reducible repeat (first | apply bN_3 | apply bD_3 | apply bA_3)); refine blk_far ?_ NB120_127.out _; (with_reducible repeat (first | apply bN_3 | apply bD_3 | apply bA_3)); refine blk_far ?_ NB120_127.out _; (with_reducible repeat (first | apply bN_3 | apply bD_3 | apply bA_3)); exact BK120.out⟩
          have n2_ : Aside0 (((w83.setCell ⟨gb127, 0, none⟩ (.int .u64 t140)).setCell ⟨gb127, 1, none⟩ (.int .u64 t141)).heap[gb121]? = some (.cells #[.int .u64 0, .int .u64 0] 24 (0, 0))) := ⟨by (with_reducible repeat (first | apply bN_3 | apply bD_3 | apply bA_3)); refine blk_far ?_ NB121_127.out _; (with_reducible repeat (first | apply bN_3 | apply bD_3 | apply bA_3)); refine blk_far ?_ NB121_127.out _; (with_reducible repeat (first | apply bN_3 | apply bD_3 | apply bA_3)); exact BK121.out⟩
          have n3_ : Aside0 (((w83.setCell ⟨gb127, 0, none⟩ (.int .u64 t140)).setCell ⟨gb127, 1, none⟩ (.int .u64 t141)).heap[gb126]? = some (.cells #[.int .u64 t122, .int .u64 t123] 24 (0, 0))) := ⟨by (with_reducible repeat (first | apply bN_3 | apply bD_3 | apply bA_3)); refine blk_far ?_ NB126_127.out _; (with_reducible repeat (first | apply bN_3 | apply bD_3 | apply bA_3)); refine blk_far ?_ NB126_127.out _; (with_reducible repeat (first | apply bN_3 | apply bD_3 | apply bA_3)); exact BK126.out⟩
          have n4_ : Aside0 (((w83.setCell ⟨gb127, 0, none⟩ (.int .u64 t140)).setCell ⟨gb127, 1, none⟩ (.int .u64 t141)).heap[gb127]? = some (.cells #[.int .u64 t140, .int .u64 t141] 24 (0, 0))) := ⟨by (with_reducible repeat (first | apply bN_3 | apply bD_3 | apply bA_3)); refine blk_put (cs := #[.int .u64 t140, .int .u64 x128001_1]) ?_ 1 _ rfl; (with_reducible repeat (first | apply bN_3 | apply bD_3 | apply bA_3)); refine blk_put (cs := #[.int .u64 x128000_1, .int .u64 x128001_1]) ?_ 0 _ rfl; (with_reducible repeat (first | apply bN_3 | apply bD_3 | apply bA_3)); exact BK127.out⟩
          have n5_ : Aside0 (Below w.heap.size w ((w83.setCell ⟨gb127, 0, none⟩ (.int .u64 t140)).setCell ⟨gb127, 1, none⟩ (.int .u64 t141))) := ⟨by repeat (first | (with_reducible first | exact HB.out | apply lA_3 | apply lN_3 | apply lD_3 | refine lS_3 ?_ GE119.out | refine lS_3 ?_ GE120.out | refine lS_3 ?_ GE121.out | refine lS_3 ?_ GE126.out | refine lS_3 ?_ GE127.out) | exact HB.out)⟩
          (try clear BK119)
          (try clear BK120)
          (try clear BK121)
          (try clear BK126)
          (try clear BK127)
          (try clear HB)
          generalize ((w83.setCell ⟨gb127, 0, none⟩ (.int .u64 t140)).setCell ⟨gb127, 1, none⟩ (.int .u64 t141)) = w85 at n0_ n1_ n2_ n3_ n4_ n5_ ⊢
          have BK119 := n0_
          have BK120 := n1_
          have BK121 := n2_
          have BK126 := n3_
          have BK127 := n4_
          have HB := n5_
          clear n0_ n1_ n2_ n3_ n4_ n5_
          have n0_ := Aside0.mk (blk_drew BK119.out)
          have n1_ := Aside0.mk (blk_drew BK120.out)
          have n2_ := Aside0.mk (blk_drew BK121.out)
          have n3_ := Aside0.mk (blk_drew BK126.out)
          have n4_ := Aside0.mk (blk_drew BK127.out)
          have n5_ := Aside0.mk (below_drew1 HB.out)
          clear BK119
          clear BK120
          clear BK121
          clear BK126
          clear BK127
          clear HB
          have BK119 := n0_
          have BK120 := n1_
          have BK121 := n2_
          have BK126 := n3_
          have BK127 := n4_
          have HB := n5_
          clear n0_ n1_ n2_ n3_ n4_ n5_
          refine start_ (n := 6) (S := fun w' => w'.cell? ⟨gb119, 0, none⟩ = some (.int .u64 x120000_1) ∧ w'.cell? ⟨gb119, 1, none⟩ = some (.int .u64 x120001_1) ∧ w'.cell? ⟨gb120, 0, none⟩ = some (.int .u64 x121000_1) ∧ w'.cell? ⟨gb120, 1, none⟩ = some (.int .u64 x121001_1)) (ds := [4, 5]) #[false, false, false, false, false, false] (by kernel_rfl) rfl rfl ⟨(blk_cell BK119.out 0).trans rfl, (blk_cell BK119.out 1).trans rfl, (blk_cell BK120.out 0).trans rfl, (blk_cell BK120.out 1).trans rfl⟩ (fun hHeld => ?_)
          generalize w85.drew = w86 at BK119 BK120 BK121 BK126 BK127 HB hHeld ⊢
          refine take_ (i := 0) (N := some 40) (v := ?_) (a' := ?_) #[true, false, false, false, false, false] rfl rfl (by kernel_rfl) (fun _ _ _ h => h) (Or.inl ⟨by rfl, ?_⟩) hHeld ?_ ?_
          rotate_left
          · rintro w' ⟨s0, s1, s2, s3⟩
            go_simp
            with_reducible rfl
          rotate_left
          · simp only [Act.put, List.setIfInBounds_toArray, List.set_cons_zero, List.set_cons_succ, i64_w, i32_w]
            rfl
          refine take_ (i := 2) (N := some 42) (v := ?_) (a' := ?_) #[true, false, true, false, false, false] rfl rfl (by kernel_rfl) (fun _ _ _ h => h) (Or.inl ⟨by rfl, ?_⟩) hHeld ?_ ?_
          rotate_left
          · rintro w' ⟨s0, s1, s2, s3⟩
            go_simp
            with_reducible rfl
          rotate_left
          · simp only [Act.put, List.setIfInBounds_toArray, List.set_cons_zero, List.set_cons_succ, i64_w, i32_w]
            rfl
          refine one_ (i := 1) (N := some 41) #[true, true, true, false, false, false] rfl rfl (by kernel_rfl) (by decide) (fun K hK => ?_)
          refine goes_ Try.func42 (by kernel_rfl) rfl #[.agg #[.int .u64 x120000_1, .int .u64 x120001_1], .int .i64 1] (by rfl) rfl rfl (by (try simp only [List.map_toArray, List.map_cons, List.map_nil]); first | done | rfl) ?_
          with_reducible refine (tnum_Rsh.calls x120000_1 x120001_1 1 t142 t143 _ A69.out).mono ?_
          rintro e w87 ⟨rfl, hb⟩
          refine ⟨_, rfl, ?_⟩
          have n0_ := Aside0.mk (blk_below (g := gb119) (o := .cells #[.int .u64 x120000_1, .int .u64 x120001_1] 24 (0, 0)) (by (with_reducible repeat (first | apply bN_3 | apply bD_3 | apply bA_3)); exact BK119.out) hb)
          have n1_ := Aside0.mk (blk_below (g := gb120) (o := .cells #[.int .u64 x121000_1, .int .u64 x121001_1] 24 (0, 0)) (by (with_reducible repeat (first | apply bN_3 | apply bD_3 | apply bA_3)); exact BK120.out) hb)
          have n2_ := Aside0.mk (blk_below (g := gb121) (o := .cells #[.int .u64 0, .int .u64 0] 24 (0, 0)) (by (with_reducible repeat (first | apply bN_3 | apply bD_3 | apply bA_3)); exact BK121.out) hb)
          have n3_ := Aside0.mk (blk_below (g := gb126) (o := .cells #[.int .u64 t122, .int .u64 t123] 24 (0, 0)) (by (with_reducible repeat (first | apply bN_3 | apply bD_3 | apply bA_3)); exact BK126.out) hb)
          have n4_ := Aside0.mk (blk_below (g := gb127) (o := .cells #[.int .u64 t140, .int .u64 t141] 24 (0, 0)) (by (with_reducible repeat (first | apply bN_3 | apply bD_3 | apply bA_3)); exact BK127.out) hb)
          have n5_ := Aside0.mk (below_step (by repeat (first | (with_reducible first | exact HB.out | apply lA_3 | apply lN_3 | apply lD_3 | refine lS_3 ?_ GE119.out | refine lS_3 ?_ GE120.out | refine lS_3 ?_ GE121.out | refine lS_3 ?_ GE126.out | refine lS_3 ?_ GE127.out) | exact HB.out)) hb)
          clear BK119
          clear BK120
          clear BK121
          clear BK126
          clear BK127
          clear HB
          have BK119 := n0_
          have BK120 := n1_
          have BK121 := n2_
          have BK126 := n3_
          have BK127 := n4_
          have HB := n5_
          clear n0_ n1_ n2_ n3_ n4_ n5_
          (try clear hb)
          (try clear hb2)
          (try clear hk)
          (try clear hi)
          refine hK.out _ _ ⟨(blk_cell BK119.out 0).trans rfl, (blk_cell BK119.out 1).trans rfl, (blk_cell BK120.out 0).trans rfl, (blk_cell BK120.out 1).trans rfl⟩ (fun hHeld => ?_)
          clear hK K
          refine norm_ (a' := ?_) ?_ ?_
          rotate_left
          · show Act.put _ (some 41) _ = _
            simp only [Act.put, List.setIfInBounds_toArray, List.set_cons_zero, List.set_cons_succ, i64_w, i32_w]
            rfl
          refine one_ (i := 3) (N := some 43) #[true, true, true, true, false, false] rfl rfl (by kernel_rfl) (by decide) (fun K hK => ?_)
          refine goes_ Try.func36 (by kernel_rfl) rfl #[.agg #[.int .u64 x121000_1, .int .u64 x121001_1], .int .i64 1] (by rfl) rfl rfl (by (try simp only [List.map_toArray, List.map_cons, List.map_nil]); first | done | rfl) ?_
          with_reducible refine (tnum_Lsh.calls x121000_1 x121001_1 1 t144 t145 _ A70.out).mono ?_
          rintro e w88 ⟨rfl, hb⟩
          refine ⟨_, rfl, ?_⟩
          have n0_ := Aside0.mk (blk_below (g := gb119) (o := .cells #[.int .u64 x120000_1, .int .u64 x120001_1] 24 (0, 0)) (by (with_reducible repeat (first | apply bN_3 | apply bD_3 | apply bA_3)); exact BK119.out) hb)
          have n1_ := Aside0.mk (blk_below (g := gb120) (o := .cells #[.int .u64 x121000_1, .int .u64 x121001_1] 24 (0, 0)) (by (with_reducible repeat (first | apply bN_3 | apply bD_3 | apply bA_3)); exact BK120.out) hb)
          have n2_ := Aside0.mk (blk_below (g := gb121) (o := .cells #[.int .u64 0, .int .u64 0] 24 (0, 0)) (by (with_reducible repeat (first | apply bN_3 | apply bD_3 | apply bA_3)); exact BK121.out) hb)
          have n3_ := Aside0.mk (blk_below (g := gb126) (o := .cells #[.int .u64 t122, .int .u64 t123] 24 (0, 0)) (by (with_reducible repeat (first | apply bN_3 | apply bD_3 | apply bA_3)); exact BK126.out) hb)
          have n4_ := Aside0.mk (blk_below (g := gb127) (o := .cells #[.int .u64 t140, .int .u64 t141] 24 (0, 0)) (by (with_reducible repeat (first | apply bN_3 | apply bD_3 | apply bA_3)); exact BK127.out) hb)
          have n5_ := Aside0.mk (below_step (by repeat (first | (with_reducible first | exact HB.out | apply lA_3 | apply lN_3 | apply lD_3 | refine lS_3 ?_ GE119.out | refine lS_3 ?_ GE120.out | refine lS_3 ?_ GE121.out | refine lS_3 ?_ GE126.out | refine lS_3 ?_ GE127.out) | exact HB.out)) hb)
          clear BK119
          clear BK120
          clear BK121
          clear BK126
          clear BK127
          clear HB
          have BK119 := n0_
          have BK120 := n1_
          have BK121 := n2_
          have BK126 := n3_
          have BK127 := n4_
          have HB := n5_
          clear n0_ n1_ n2_ n3_ n4_ n5_
          (try clear hb)
          (try clear hb2)
          (try clear hk)
          (try clear hi)
          refine hK.out _ _ ⟨(blk_cell BK119.out 0).trans rfl, (blk_cell BK119.out 1).trans rfl, (blk_cell BK120.out 0).trans rfl, (blk_cell BK120.out 1).trans rfl⟩ (fun hHeld => ?_)
          clear hK K
          refine norm_ (a' := ?_) ?_ ?_
          rotate_left
          · show Act.put _ (some 43) _ = _
            simp only [Act.put, List.setIfInBounds_toArray, List.set_cons_zero, List.set_cons_succ, i64_w, i32_w]
            rfl
          refine last_ (i := 4) (N := none) #[true, true, true, true, true, false] rfl rfl (by kernel_rfl) (by decide) (fun K hK => ?_)
          have hs89 : w88.cell? ⟨gb119, 0, none⟩ = some (.int .u64 x120000_1) := (blk_cell BK119.out 0).trans rfl
          have hfs89 := blk_frozen BK119.out 0
          have hns89_1 := NB120_119.out
          have hns89_2 := NB121_119.out
          have hns89_3 := NB126_119.out
          have hns89_4 := NB127_119.out
          have hms89_1 := NB119_120.out
          have hms89_2 := NB119_121.out
          have hms89_3 := NB119_126.out
          have hms89_4 := NB119_127.out
          have hs90 : w88.cell? ⟨gb119, 1, none⟩ = some (.int .u64 x120001_1) := (blk_cell BK119.out 1).trans rfl
          have hfs90 := blk_frozen BK119.out 1
          have hns90_1 := NB120_119.out
          have hns90_2 := NB121_119.out
          have hns90_3 := NB126_119.out
          have hns90_4 := NB127_119.out
          have hms90_1 := NB119_120.out
          have hms90_2 := NB119_121.out
          have hms90_3 := NB119_126.out
          have hms90_4 := NB119_127.out
          refine skip_ (w1 := ?_) (by rfl) rfl ?_ ?_
          rotate_left
          · go_simp
            rfl
          refine hK.out _ _ ?_
          clear hK K
          refine last_ (i := 5) (N := none) #[true, true, true, true, true, true] rfl rfl (by kernel_rfl) (by decide) (fun K hK => ?_)
          have hs91 : w88.cell? ⟨gb120, 0, none⟩ = some (.int .u64 x121000_1) := (blk_cell BK120.out 0).trans rfl
          have hfs91 := blk_frozen BK120.out 0
          have hns91_0 := NB119_120.out
          have hns91_2 := NB121_120.out
          have hns91_3 := NB126_120.out
          have hns91_4 := NB127_120.out
          have hms91_0 := NB120_119.out
          have hms91_2 := NB120_121.out
          have hms91_3 := NB120_126.out
          have hms91_4 := NB120_127.out
          have hs92 : w88.cell? ⟨gb120, 1, none⟩ = some (.int .u64 x121001_1) := (blk_cell BK120.out 1).trans rfl
          have hfs92 := blk_frozen BK120.out 1
          have hns92_0 := NB119_120.out
          have hns92_2 := NB121_120.out
          have hns92_3 := NB126_120.out
          have hns92_4 := NB127_120.out
          have hms92_0 := NB120_119.out
          have hms92_2 := NB120_121.out
          have hms92_3 := NB120_126.out
          have hms92_4 := NB120_127.out
          refine skip_ (w1 := ?_) (by rfl) rfl ?_ ?_
          rotate_left
          · go_simp
            rfl
          refine hK.out _ _ ?_
          clear hK K
          refine done_ (by kernel_rfl) ?_
          try go_wp2
          go_roundg k1
          case measure => have := HK1.out; omega
          case rel => exact ⟨(t142), (t143), (t144), (t145), (t140), (t141), H', ⟨by have := HK1.out; omega⟩, ⟨by (with_reducible repeat (first | apply bN_3 | apply bD_3 | apply bA_3)); refine blk_far ?_ NB119_120.out _; (with_reducible repeat (first | apply bN_3 | apply bD_3 | apply bA_3)); refine blk_far ?_ NB119_120.out _; (with_reducible repeat (first | apply bN_3 | apply bD_3 | apply bA_3)); refine blk_put (cs := #[.int .u64 t142, .int .u64 x120001_1]) ?_ 1 _ rfl; (with_reducible repeat (first | apply bN_3 | apply bD_3 | apply bA_3)); refine blk_put (cs := #[.int .u64 x120000_1, .int .u64 x120001_1]) ?_ 0 _ rfl; (with_reducible repeat (first | apply bN_3 | apply bD_3 | apply bA_3)); exact BK119.out⟩, ⟨by (with_reducible repeat (first | apply bN_3 | apply bD_3 | apply bA_3)); refine blk_put (cs := #[.int .u64 t144, .int .u64 x121001_1]) ?_ 1 _ rfl; (with_reducible repeat (first | apply bN_3 | apply bD_3 | apply bA_3)); refine blk_put (cs := #[.int .u64 x121000_1, .int .u64 x121001_1]) ?_ 0 _ rfl; (with_reducible repeat (first | apply bN_3 | apply bD_3 | apply bA_3)); refine blk_far ?_ NB120_119.out _; (with_reducible repeat (first | apply bN_3 | apply bD_3 | apply bA_3)); refine blk_far ?_ NB120_119.out _; (with_reducible repeat (first | apply bN_3 | apply bD_3 | apply bA_3)); exact BK120.out⟩, ⟨by (with_reducible repeat (first | apply bN_3 | apply bD_3 | apply bA_3)); refine blk_far ?_ NB121_120.out _; (with_reducible repeat (first | apply bN_3 | apply bD_3 | apply bA_3)); refine blk_far ?_ NB121_120.out _; (with_reducible repeat (first | apply bN_3 | apply bD_3 | apply bA_3)); refine blk_far ?_ NB121_119.out _; (with_reducible repeat (first | apply bN_3 | apply bD_3 | apply bA_3)); refine blk_far ?_ NB121_119.out _; (with_reducible repeat (first | apply bN_3 | apply bD_3 | apply bA_3)); exact BK121.out⟩, ⟨by (with_reducible repeat (first | apply bN_3 | apply bD_3 | apply bA_3)); refine blk_far ?_ NB126_120.out _; (with_reducible repeat (first | apply bN_3 | apply bD_3 | apply bA_3)); refine blk_far ?_ NB126_120.out _; (with_reducible repeat (first | apply bN_3 | apply bD_3 | apply bA_3)); refine blk_far ?_ NB126_119.out _; (with_reducible repeat (first | apply bN_3 | apply bD_3 | apply bA_3)); refine blk_far ?_ NB126_119.out _; (with_reducible repeat (first | apply bN_3 | apply bD_3 | apply bA_3)); exact BK126.out⟩, ⟨by (with_reducible repeat (first | apply bN_3 | apply bD_3 | apply bA_3)); refine blk_far ?_ NB127_120.out _; (with_reducible repeat (first | apply bN_3 | apply bD_3 | apply bA_3)); refine blk_far ?_ NB127_120.out _; (with_reducible repeat (first | apply bN_3 | apply bD_3 | apply bA_3)); refine blk_far ?_ NB127_119.out _; (with_reducible repeat (first | apply bN_3 | apply bD_3 | apply bA_3)); refine blk_far ?_ NB127_119.out _; (with_reducible repeat (first | apply bN_3 | apply bD_3 | apply bA_3)); exact BK127.out⟩, ⟨by repeat (first | (with_reducible first | exact HB.out | apply lA_3 | apply lN_3 | apply lD_3 | refine lS_3 ?_ GE119.out | refine lS_3 ?_ GE120.out | refine lS_3 ?_ GE121.out | refine lS_3 ?_ GE126.out | refine lS_3 ?_ GE127.out) | exact HB.out)⟩⟩
      · rw [if_neg c26] at H
        have c26b0 : (!(x120000_1 == 0) || (!(x120001_1 == 0))) = false := by simpa using c26
        clear c26
        replace H := Option.bind_eq_some_iff.mp H
        obtain ⟨⟨t128, t129⟩, A930, H⟩ := H
        replace H : (some (t128, t129)) = some (r1, r2) := H
        have A93 := Aside0.mk A930
        clear A930
        simp only [Option.some.injEq, Prod.mk.injEq] at H
        obtain ⟨rfl, rfl⟩ := H
        have hnb94 := NB119_120.out
        have hnc94 := NB120_119.out
        have hnb95 := NB119_121.out
        have hnc95 := NB121_119.out
        have hnb96 := NB119_126.out
        have hnc96 := NB126_119.out
        have hnb97 := NB119_127.out
        have hnc97 := NB127_119.out
        have hcz98_0 : wr.cell? ⟨gb119, 0, none⟩ = some (.int .u64 x120000_1) := (blk_cell BK119.out 0).trans rfl
        have hcz98_1 : wr.cell? ⟨gb119, 1, none⟩ = some (.int .u64 x120001_1) := (blk_cell BK119.out 1).trans rfl
        have hfz98_0 := blk_frozen BK119.out 0
        have hfz98_1 := blk_frozen BK119.out 1
        have hnb99 := NB126_120.out
        have hnc99 := NB120_126.out
        have hnb100 := NB126_121.out
        have hnc100 := NB121_126.out
        have hnb101 := NB126_127.out
        have hnc101 := NB127_126.out
        have hcz102_0 : wr.cell? ⟨gb126, 0, none⟩ = some (.int .u64 t122) := (blk_cell BK126.out 0).trans rfl
        have hcz102_1 : wr.cell? ⟨gb126, 1, none⟩ = some (.int .u64 t123) := (blk_cell BK126.out 1).trans rfl
        have hfz102_0 := blk_frozen BK126.out 0
        have hfz102_1 := blk_frozen BK126.out 1
        have hnb103 := NB127_120.out
        have hnc103 := NB120_127.out
        have hnb104 := NB127_121.out
        have hnc104 := NB121_127.out
        have hcz105_0 : wr.cell? ⟨gb127, 0, none⟩ = some (.int .u64 x128000_1) := (blk_cell BK127.out 0).trans rfl
        have hcz105_1 : wr.cell? ⟨gb127, 1, none⟩ = some (.int .u64 x128001_1) := (blk_cell BK127.out 1).trans rfl
        have hfz105_0 := blk_frozen BK127.out 0
        have hfz105_1 := blk_frozen BK127.out 1
        go_wp2_with (first | ((with_reducible refine gate_callee (f := 17) rfl ?_); refine goesL_ (some 46) rfl rfl Try.func17 (by kernel_rfl) rfl #[.agg #[.int .u64 t122, .int .u64 t123], .agg #[.int .u64 x128000_1, .int .u64 x128001_1]] rfl (by (try simp only [List.map_toArray, List.map_cons, List.map_nil]); first | done | rfl) ?_; (with_reducible refine (tnum_Add.calls t122 t123 x128000_1 x128001_1 t128 t129 _ A93.out).mono ?_); rintro e w106 ⟨rfl, hb⟩; refine ⟨_, rfl, ?_⟩; have n0_ := Aside0.mk (blk_below (g := gb119) (o := .cells #[.int .u64 x120000_1, .int .u64 x120001_1] 24 (0, 0)) (by (with_reducible repeat (first | apply bN_3 | apply bD_3 | apply bA_3)); exact BK119.out) hb); have n1_ := Aside0.mk (blk_below (g := gb120) (o := .cells #[.int .u64 x121000_1, .int .u64 x121001_1] 24 (0, 0)) (by (with_reducible repeat (first | apply bN_3 | apply bD_3 | apply bA_3)); exact BK120.out) hb); have n2_ := Aside0.mk (blk_below (g := gb121) (o := .cells #[.int .u64 0, .int .u64 0] 24 (0, 0)) (by (with_reducible repeat (first | apply bN_3 | apply bD_3 | apply bA_3)); exact BK121.out) hb); have n3_ := Aside0.mk (blk_below (g := gb126) (o := .cells #[.int .u64 t122, .int .u64 t123] 24 (0, 0)) (by (with_reducible repeat (first | apply bN_3 | apply bD_3 | apply bA_3)); exact BK126.out) hb); have n4_ := Aside0.mk (blk_below (g := gb127) (o := .cells #[.int .u64 x128000_1, .int .u64 x128001_1] 24 (0, 0)) (by (with_reducible repeat (first | apply bN_3 | apply bD_3 | apply bA_3)); exact BK127.out) hb); have n5_ := Aside0.mk (below_step (by repeat (first | (with_reducible first | exact HB.out | apply lA_3 | apply lN_3 | apply lD_3 | refine lS_3 ?_ GE119.out | refine lS_3 ?_ GE120.out | refine lS_3 ?_ GE121.out | refine lS_3 ?_ GE126.out | refine lS_3 ?_ GE127.out) | exact HB.out)) hb); clear BK119; clear BK120; clear BK121; clear BK126; clear BK127; clear HB; have BK119 := n0_; have BK120 := n1_; have BK121 := n2_; have BK126 := n3_; have BK127 := n4_; have HB := n5_; clear n0_ n1_ n2_ n3_ n4_ n5_; (try clear hb); (try clear hb2); (try clear hk); (try clear hi); have hnb107 := NB121_120.out; have hnc107 := NB120_121.out; have hcz108_0 : w106.cell? ⟨gb121, 0, none⟩ = some (.int .u64 0) := (blk_cell BK121.out 0).trans rfl; have hcz108_1 : w106.cell? ⟨gb121, 1, none⟩ = some (.int .u64 0) := (blk_cell BK121.out 1).trans rfl; have hfz108_0 := blk_frozen BK121.out 0; have hfz108_1 := blk_frozen BK121.out 1))
        refine bodyPost_ret (results_cell_row rfl _ _ gb121 24 #[.int .u64 t128, .int .u64 t129] (0, 0) _ rfl (by (with_reducible repeat (first | apply bN_3 | apply bD_3 | apply bA_3)); refine blk_put (cs := #[.int .u64 t128, .int .u64 0]) ?_ 1 _ rfl; (with_reducible repeat (first | apply bN_3 | apply bD_3 | apply bA_3)); refine blk_put (cs := #[.int .u64 0, .int .u64 0]) ?_ 0 _ rfl; (with_reducible repeat (first | apply bN_3 | apply bD_3 | apply bA_3)); exact BK121.out) Try.underlying24 rfl (by kernel_rfl)) rfl ?_
        exact ⟨by first | rfl | (simp [errW_none, errW_some] <;> rfl) | (simp [*, errW_none, errW_some] <;> rfl), by repeat (first | (with_reducible first | exact HB.out | apply lA_3 | apply lN_3 | apply lD_3 | refine lS_3 ?_ GE119.out | refine lS_3 ?_ GE120.out | refine lS_3 ?_ GE121.out | refine lS_3 ?_ GE126.out | refine lS_3 ?_ GE127.out) | exact HB.out)⟩

end Go.Proofs.Ytkmnogcahpbdjaa.PA
