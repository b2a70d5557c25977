-- PRINTED by print.py (a twelfth state) out of the translation. Not trusted: Lean checks it.
import Derived.Test.YtkmnogcahpbdjaaPA0
namespace Go.Proofs.Ytkmnogcahpbdjaa.PA
open Go.RowKit Go.Proofs.YtkmnogcahpbdjaaW.PrintWords Go.Proofs.YtkmnogcahpbdjaaW.PrintLast Go.Proofs.YtkmnogcahpbdjaaW.PrintMore
attribute [local go_sem] max2_int min2_int max_two min_two max_three min_three max_four min_four   -- for this text's walks alone
set_option linter.defProp false
def bN_7 := @blk_drewN
def bD_7 := @blk_drew
def bA_7 := @blk_alloc
def lA_7 := @below_alloc
def lN_7 := @pw_below_drewN
def lD_7 := @below_drew1
def lS_7 := @below_set
set_option linter.unusedVariables false
set_option linter.unusedSimpArgs false

/-! ### lockgateref03_without: function 51 -/
def lockgateref03_without.f (a0 : Int) (a1 : Int) : Option (Int × Int) := some (Go.bits .andNot .u64 a0 a1, a1)
set_option maxHeartbeats 8000000 in
set_option maxRecDepth 100000 in
theorem lockgateref03_without.calls (a0 : Int) (a1 : Int) (r1 : Int) (r2 : Int) (w : World) (h : lockgateref03_without.f a0 a1 = some (r1, r2)) :
    Calls Try.prog 51 #[.int .u64 a0, .int .u64 a1] w fun e w' => e = .returned (.agg #[.int .u64 r1, .int .u64 r2]) ∧ Below w.heap.size w w' := by
  have hu24 := Try.underlying24
  have HB := Aside0.mk (Below.refl w.heap.size w)
  have H : (some (Go.bits .andNot .u64 a0 a1, a1)) = some (r1, r2) := h
  clear h
  simp only [Option.some.injEq, Prod.mk.injEq] at H
  obtain ⟨rfl, rfl⟩ := H
  go_enter Try.func51, Try.ntmps51
  go_wp2_with (first | ((with_reducible refine gate_dst (N := 4) rfl ?_); refine box_event ?hg (N := 4) ?hd (cs := #[.int .u64 0, .int .u64 0]) (t := 24) ?hr ?_; (case hd => rfl); (case hg => rfl); (case hr => first | (go_simp; done) | (go_simp; rfl)); intro gb179 hg w3 hbox hb; have n0_ := Aside0.mk (below_step (by repeat (first | (with_reducible first | exact HB.out | apply lA_7 | apply lN_7 | apply lD_7) | exact HB.out)) hb); have n1_ := Aside0.mk (hbox); have n2_ := Aside0.mk ((by rw [hg]; exact (below_size (by repeat (first | (with_reducible first | exact HB.out | apply lA_7 | apply lN_7 | apply lD_7) | exact HB.out))) : w.heap.size ≤ gb179)); have n3_ := Aside0.mk ((by rw [hg]; exact (below_size (by repeat (first | (with_reducible first | exact HB.out | apply lA_7 | apply lN_7 | apply lD_7) | exact HB.out))) : w.heap.size ≤ gb179)); clear HB; have HB := n0_; have BK179 := n1_; have GW179 := n2_; have GE179 := n3_; clear n0_ n1_ n2_ n3_; clear hb hbox hg; have hcz4_0 : w3.cell? ⟨gb179, 0, none⟩ = some (.int .u64 0) := (blk_cell BK179.out 0).trans rfl; have hcz4_1 : w3.cell? ⟨gb179, 1, none⟩ = some (.int .u64 0) := (blk_cell BK179.out 1).trans rfl; have hfz4_0 := blk_frozen BK179.out 0; have hfz4_1 := blk_frozen BK179.out 1))
  refine bodyPost_ret (results_cell_row rfl _ _ gb179 24 #[.int .u64 (Go.bits .andNot .u64 a0 a1), .int .u64 a1] (0, 0) _ rfl (by (with_reducible repeat (first | apply bN_7 | apply bD_7 | apply bA_7)); refine blk_put (cs := #[.int .u64 (Go.bits .andNot .u64 a0 a1), .int .u64 0]) ?_ 1 _ rfl; (with_reducible repeat (first | apply bN_7 | apply bD_7 | apply bA_7)); refine blk_put (cs := #[.int .u64 0, .int .u64 0]) ?_ 0 _ rfl; (with_reducible repeat (first | apply bN_7 | apply bD_7 | apply bA_7)); exact BK179.out) Try.underlying24 rfl (by kernel_rfl)) rfl ?_
  exact ⟨by first | rfl | (simp [errW_none, errW_some] <;> rfl) | (simp [*, errW_none, errW_some] <;> rfl), by repeat (first | (with_reducible first | exact HB.out | apply lA_7 | apply lN_7 | apply lD_7 | refine lS_7 ?_ GE179.out) | exact HB.out)⟩

/-! ### lockgateref03_Add: function 18 -/
def lockgateref03_Add.f (a0_0 : Int) (a0_1 : Int) (a1_0 : Int) (a1_1 : Int) : Option (Int × Int) := (lockgateref03_without.f (IntKind.u64.wrap (a0_0 + a1_0)) (Go.bits .or .u64 (Go.bits .or .u64 (Go.bits .xor .u64 (IntKind.u64.wrap ((IntKind.u64.wrap ((IntKind.u64.wrap (a0_0 + a1_0)) + a0_1)) + a1_1)) (IntKind.u64.wrap (a0_0 + a1_0))) a0_1) a1_1)).bind fun bt183 => (some (bt183.1, bt183.2))
set_option maxHeartbeats 8000000 in
set_option maxRecDepth 100000 in
theorem lockgateref03_Add.calls (a0_0 : Int) (a0_1 : Int) (a1_0 : Int) (a1_1 : Int) (r1 : Int) (r2 : Int) (w : World) (h : lockgateref03_Add.f a0_0 a0_1 a1_0 a1_1 = some (r1, r2)) :
    Calls Try.prog 18 #[.agg #[.int .u64 a0_0, .int .u64 a0_1], .agg #[.int .u64 a1_0, .int .u64 a1_1]] w fun e w' => e = .returned (.agg #[.int .u64 r1, .int .u64 r2]) ∧ Below w.heap.size w w' := by
  have hu24 := Try.underlying24
  have HB := Aside0.mk (Below.refl w.heap.size w)
  have H : ((lockgateref03_without.f (IntKind.u64.wrap (a0_0 + a1_0)) (Go.bits .or .u64 (Go.bits .or .u64 (Go.bits .xor .u64 (IntKind.u64.wrap ((IntKind.u64.wrap ((IntKind.u64.wrap (a0_0 + a1_0)) + a0_1)) + a1_1)) (IntKind.u64.wrap (a0_0 + a1_0))) a0_1) a1_1)).bind fun bt183 => (some (bt183.1, bt183.2))) = some (r1, r2) := h
  clear h
  replace H := Option.bind_eq_some_iff.mp H
  obtain ⟨⟨t183, t184⟩, A30, H⟩ := H
  replace H : (some (t183, t184)) = some (r1, r2) := H
  have A3 := Aside0.mk A30
  clear A30
  simp only [Option.some.injEq, Prod.mk.injEq] at H
  obtain ⟨rfl, rfl⟩ := H
  go_enter Try.func18, Try.ntmps18
  go_wp2_with (first | ((with_reducible refine gate_dst (N := 2) rfl ?_); refine box_event ?hg (N := 2) ?hd (cs := #[.int .u64 a0_0, .int .u64 a0_1]) (t := 24) ?hr ?_; (case hd => rfl); (case hg => rfl); (case hr => first | (go_simp; done) | (go_simp; rfl)); intro gb180 hg w4 hbox hb; have n0_ := Aside0.mk (below_step (by repeat (first | (with_reducible first | exact HB.out | apply lA_7 | apply lN_7 | apply lD_7) | exact HB.out)) hb); have n1_ := Aside0.mk (hbox); have n2_ := Aside0.mk ((by rw [hg]; exact (below_size (by repeat (first | (with_reducible first | exact HB.out | apply lA_7 | apply lN_7 | apply lD_7) | exact HB.out))) : w.heap.size ≤ gb180)); have n3_ := Aside0.mk ((by rw [hg]; exact (below_size (by repeat (first | (with_reducible first | exact HB.out | apply lA_7 | apply lN_7 | apply lD_7) | exact HB.out))) : w.heap.size ≤ gb180)); clear HB; have HB := n0_; have BK180 := n1_; have GW180 := n2_; have GE180 := n3_; clear n0_ n1_ n2_ n3_; clear hb hbox hg) | ((with_reducible refine gate_dst (N := 3) rfl ?_); refine box_event ?hg (N := 3) ?hd (cs := #[.int .u64 a1_0, .int .u64 a1_1]) (t := 24) ?hr ?_; (case hd => rfl); (case hg => rfl); (case hr => first | (go_simp; done) | (go_simp; rfl)); intro gb181 hg w5 hbox hb; have n0_ := Aside0.mk (blk_below (g := gb180) (o := .cells #[.int .u64 a0_0, .int .u64 a0_1] 24 (0, 0)) (by (with_reducible repeat (first | apply bN_7 | apply bD_7 | apply bA_7)); exact BK180.out) hb); have n1_ := Aside0.mk (below_step (by repeat (first | (with_reducible first | exact HB.out | apply lA_7 | apply lN_7 | apply lD_7 | refine lS_7 ?_ GE180.out) | exact HB.out)) hb); have n2_ := Aside0.mk (hbox); have n3_ := Aside0.mk ((by rw [hg]; exact (below_size (by repeat (first | (with_reducible first | exact HB.out | apply lA_7 | apply lN_7 | apply lD_7 | refine lS_7 ?_ GE180.out) | exact HB.out))) : w.heap.size ≤ gb181)); have n4_ := Aside0.mk ((by rw [hg]; exact (below_size (by repeat (first | (with_reducible first | exact HB.out | apply lA_7 | apply lN_7 | apply lD_7 | refine lS_7 ?_ GE180.out) | exact HB.out))) : w.heap.size ≤ gb181)); have n5_ := Aside0.mk ((by rw [hg]; exact Nat.ne_of_lt (blk_lt (g := gb180) (o := .cells #[.int .u64 a0_0, .int .u64 a0_1] 24 (0, 0)) (by (with_reducible repeat (first | apply bN_7 | apply bD_7 | apply bA_7)); exact BK180.out)) : gb180 ≠ gb181)); have n6_ := Aside0.mk ((by rw [hg]; exact Nat.ne_of_gt (blk_lt (g := gb180) (o := .cells #[.int .u64 a0_0, .int .u64 a0_1] 24 (0, 0)) (by (with_reducible repeat (first | apply bN_7 | apply bD_7 | apply bA_7)); exact BK180.out)) : gb181 ≠ gb180)); clear BK180; clear HB; have BK180 := n0_; have HB := n1_; have BK181 := n2_; have GW181 := n3_; have GE181 := n4_; have NB180_181 := n5_; have NB181_180 := n6_; clear n0_ n1_ n2_ n3_ n4_ n5_ n6_; clear hb hbox hg) | ((with_reducible refine gate_dst (N := 4) rfl ?_); refine box_event ?hg (N := 4) ?hd (cs := #[.int .u64 0, .int .u64 0]) (t := 24) ?hr ?_; (case hd => rfl); (case hg => rfl); (case hr => first | (go_simp; done) | (go_simp; rfl)); intro gb182 hg w6 hbox hb; have n0_ := Aside0.mk (blk_below (g := gb180) (o := .cells #[.int .u64 a0_0, .int .u64 a0_1] 24 (0, 0)) (by (with_reducible repeat (first | apply bN_7 | apply bD_7 | apply bA_7)); exact BK180.out) hb); have n1_ := Aside0.mk (blk_below (g := gb181) (o := .cells #[.int .u64 a1_0, .int .u64 a1_1] 24 (0, 0)) (by (with_reducible repeat (first | apply bN_7 | apply bD_7 | apply bA_7)); exact BK181.out) hb); have n2_ := Aside0.mk (below_step (by repeat (first | (with_reducible first | exact HB.out | apply lA_7 | apply lN_7 | apply lD_7 | refine lS_7 ?_ GE180.out | refine lS_7 ?_ GE181.out) | exact HB.out)) hb); have n3_ := Aside0.mk (hbox); have n4_ := Aside0.mk ((by rw [hg]; exact (below_size (by repeat (first | (with_reducible first | exact HB.out | apply lA_7 | apply lN_7 | apply lD_7 | refine lS_7 ?_ GE180.out | refine lS_7 ?_ GE181.out) | exact HB.out))) : w.heap.size ≤ gb182)); have n5_ := Aside0.mk ((by rw [hg]; exact (below_size (by repeat (first | (with_reducible first | exact HB.out | apply lA_7 | apply lN_7 | apply lD_7 | refine lS_7 ?_ GE180.out | refine lS_7 ?_ GE181.out) | exact HB.out))) : w.heap.size ≤ gb182)); have n6_ := Aside0.mk ((by rw [hg]; exact Nat.ne_of_lt (blk_lt (g := gb180) (o := .cells #[.int .u64 a0_0, .int .u64 a0_1] 24 (0, 0)) (by (with_reducible repeat (first | apply bN_7 | apply bD_7 | apply bA_7)); exact BK180.out)) : gb180 ≠ gb182)); have n7_ := Aside0.mk ((by rw [hg]; exact Nat.ne_of_gt (blk_lt (g := gb180) (o := .cells #[.int .u64 a0_0, .int .u64 a0_1] 24 (0, 0)) (by (with_reducible repeat (first | apply bN_7 | apply bD_7 | apply bA_7)); exact BK180.out)) : gb182 ≠ gb180)); have n8_ := Aside0.mk ((by rw [hg]; exact Nat.ne_of_lt (blk_lt (g := gb181) (o := .cells #[.int .u64 a1_0, .int .u64 a1_1] 24 (0, 0)) (by (with_reducible repeat (first | apply bN_7 | apply bD_7 | apply bA_7)); exact BK181.out)) : gb181 ≠ gb182)); have n9_ := Aside0.mk ((by rw [hg]; exact Nat.ne_of_gt (blk_lt (g := gb181) (o := .cells #[.int .u64 a1_0, .int .u64 a1_1] 24 (0, 0)) (by (with_reducible repeat (first | apply bN_7 | apply bD_7 | apply bA_7)); exact BK181.out)) : gb182 ≠ gb181)); clear BK180; clear BK181; clear HB; have BK180 := n0_; have BK181 := n1_; have HB := n2_; have BK182 := n3_; have GW182 := n4_; have GE182 := n5_; have NB180_182 := n6_; have NB182_180 := n7_; have NB181_182 := n8_; have NB182_181 := n9_; clear n0_ n1_ n2_ n3_ n4_ n5_ n6_ n7_ n8_ n9_; clear hb hbox hg; have hnb7 := NB180_181.out; have hnc7 := NB181_180.out; have hnb8 := NB180_182.out; have hnc8 := NB182_180.out; have hcz9_0 : w6.cell? ⟨gb180, 0, none⟩ = some (.int .u64 a0_0) := (blk_cell BK180.out 0).trans rfl; have hcz9_1 : w6.cell? ⟨gb180, 1, none⟩ = some (.int .u64 a0_1) := (blk_cell BK180.out 1).trans rfl; have hfz9_0 := blk_frozen BK180.out 0; have hfz9_1 := blk_frozen BK180.out 1; have hnb10 := NB181_182.out; have hnc10 := NB182_181.out; have hcz11_0 : w6.cell? ⟨gb181, 0, none⟩ = some (.int .u64 a1_0) := (blk_cell BK181.out 0).trans rfl; have hcz11_1 : w6.cell? ⟨gb181, 1, none⟩ = some (.int .u64 a1_1) := (blk_cell BK181.out 1).trans rfl; have hfz11_0 := blk_frozen BK181.out 0; have hfz11_1 := blk_frozen BK181.out 1) | ((with_reducible refine gate_callee (f := 51) rfl ?_); refine goesL_ (some 29) rfl rfl Try.func51 (by kernel_rfl) rfl #[.int .u64 (IntKind.u64.wrap (a0_0 + a1_0)), .int .u64 (Go.bits .or .u64 (Go.bits .or .u64 (Go.bits .xor .u64 (IntKind.u64.wrap ((IntKind.u64.wrap ((IntKind.u64.wrap (a0_0 + a1_0)) + a0_1)) + a1_1)) (IntKind.u64.wrap (a0_0 + a1_0))) a0_1) a1_1)] rfl (by (try simp only [List.map_toArray, List.map_cons, List.map_nil]); first | done | rfl) ?_; (with_reducible refine (lockgateref03_without.calls (IntKind.u64.wrap (a0_0 + a1_0)) (Go.bits .or .u64 (Go.bits .or .u64 (Go.bits .xor .u64 (IntKind.u64.wrap ((IntKind.u64.wrap ((IntKind.u64.wrap (a0_0 + a1_0)) + a0_1)) + a1_1)) (IntKind.u64.wrap (a0_0 + a1_0))) a0_1) a1_1) t183 t184 _ A3.out).mono ?_); rintro e w12 ⟨rfl, hb⟩; refine ⟨_, rfl, ?_⟩; have n0_ := Aside0.mk (blk_below (g := gb180) (o := .cells #[.int .u64 a0_0, .int .u64 a0_1] 24 (0, 0)) (by (with_reducible repeat (first | apply bN_7 | apply bD_7 | apply bA_7)); exact BK180.out) hb); have n1_ := Aside0.mk (blk_below (g := gb181) (o := .cells #[.int .u64 a1_0, .int .u64 a1_1] 24 (0, 0)) (by (with_reducible repeat (first | apply bN_7 | apply bD_7 | apply bA_7)); exact BK181.out) hb); have n2_ := Aside0.mk (blk_below (g := gb182) (o := .cells #[.int .u64 0, .int .u64 0] 24 (0, 0)) (by (with_reducible repeat (first | apply bN_7 | apply bD_7 | apply bA_7)); exact BK182.out) hb); have n3_ := Aside0.mk (below_step (by repeat (first | (with_reducible first | exact HB.out | apply lA_7 | apply lN_7 | apply lD_7 | refine lS_7 ?_ GE180.out | refine lS_7 ?_ GE181.out | refine lS_7 ?_ GE182.out) | exact HB.out)) hb); clear BK180; clear BK181; clear BK182; clear HB; have BK180 := n0_; have BK181 := n1_; have BK182 := n2_; have HB := n3_; clear n0_ n1_ n2_ n3_; (try clear hb); (try clear hb2); (try clear hk); (try clear hi); have hcz13_0 : w12.cell? ⟨gb182, 0, none⟩ = some (.int .u64 0) := (blk_cell BK182.out 0).trans rfl; have hcz13_1 : w12.cell? ⟨gb182, 1, none⟩ = some (.int .u64 0) := (blk_cell BK182.out 1).trans rfl; have hfz13_0 := blk_frozen BK182.out 0; have hfz13_1 := blk_frozen BK182.out 1))
  refine bodyPost_ret (results_cell_row rfl _ _ gb182 24 #[.int .u64 t183, .int .u64 t184] (0, 0) _ rfl (by (with_reducible repeat (first | apply bN_7 | apply bD_7 | apply bA_7)); refine blk_put (cs := #[.int .u64 t183, .int .u64 0]) ?_ 1 _ rfl; (with_reducible repeat (first | apply bN_7 | apply bD_7 | apply bA_7)); refine blk_put (cs := #[.int .u64 0, .int .u64 0]) ?_ 0 _ rfl; (with_reducible repeat (first | apply bN_7 | apply bD_7 | apply bA_7)); exact BK182.out) Try.underlying24 rfl (by kernel_rfl)) rfl ?_
  exact ⟨by first | rfl | (simp [errW_none, errW_some] <;> rfl) | (simp [*, errW_none, errW_some] <;> rfl), by repeat (first | (with_reducible first | exact HB.out | apply lA_7 | apply lN_7 | apply lD_7 | refine lS_7 ?_ GE180.out | refine lS_7 ?_ GE181.out | refine lS_7 ?_ GE182.out) | exact HB.out)⟩

/-! ### lockgateref03_Sub: function 20 -/
def lockgateref03_Sub.f (a0_0 : Int) (a0_1 : Int) (a1_0 : Int) (a1_1 : Int) : Option (Int × Int) := (lockgateref03_without.f (IntKind.u64.wrap (a0_0 - a1_0)) (Go.bits .or .u64 (Go.bits .or .u64 (Go.bits .xor .u64 (IntKind.u64.wrap ((IntKind.u64.wrap (a0_0 - a1_0)) + a0_1)) (IntKind.u64.wrap ((IntKind.u64.wrap (a0_0 - a1_0)) - a1_1))) a0_1) a1_1)).bind fun bt193 => (some (bt193.1, bt193.2))
set_option maxHeartbeats 8000000 in
set_option maxRecDepth 100000 in
theorem lockgateref03_Sub.calls (a0_0 : Int) (a0_1 : Int) (a1_0 : Int) (a1_1 : Int) (r1 : Int) (r2 : Int) (w : World) (h : lockgateref03_Sub.f a0_0 a0_1 a1_0 a1_1 = some (r1, r2)) :
    Calls Try.prog 20 #[.agg #[.int .u64 a0_0, .int .u64 a0_1], .agg #[.int .u64 a1_0, .int .u64 a1_1]] w fun e w' => e = .returned (.agg #[.int .u64 r1, .int .u64 r2]) ∧ Below w.heap.size w w' := by
  have hu24 := Try.underlying24
  have HB := Aside0.mk (Below.refl w.heap.size w)
  have H : ((lockgateref03_without.f (IntKind.u64.wrap (a0_0 - a1_0)) (Go.bits .or .u64 (Go.bits .or .u64 (Go.bits .xor .u64 (IntKind.u64.wrap ((IntKind.u64.wrap (a0_0 - a1_0)) + a0_1)) (IntKind.u64.wrap ((IntKind.u64.wrap (a0_0 - a1_0)) - a1_1))) a0_1) a1_1)).bind fun bt193 => (some (bt193.1, bt193.2))) = some (r1, r2) := h
  clear h
  replace H := Option.bind_eq_some_iff.mp H
  obtain ⟨⟨t193, t194⟩, A30, H⟩ := H
  replace H : (some (t193, t194)) = some (r1, r2) := H
  have A3 := Aside0.mk A30
  clear A30
  simp only [Option.some.injEq, Prod.mk.injEq] at H
  obtain ⟨rfl, rfl⟩ := H
  go_enter Try.func20, Try.ntmps20
  go_wp2_with (first | ((with_reducible refine gate_dst (N := 2) rfl ?_); refine box_event ?hg (N := 2) ?hd (cs := #[.int .u64 a0_0, .int .u64 a0_1]) (t := 24) ?hr ?_; (case hd => rfl); (case hg => rfl); (case hr => first | (go_simp; done) | (go_simp; rfl)); intro gb190 hg w4 hbox hb; have n0_ := Aside0.mk (below_step (by repeat (first | (with_reducible first | exact HB.out | apply lA_7 | apply lN_7 | apply lD_7) | exact HB.out)) hb); have n1_ := Aside0.mk (hbox); have n2_ := Aside0.mk ((by rw [hg]; exact (below_size (by repeat (first | (with_reducible first | exact HB.out | apply lA_7 | apply lN_7 | apply lD_7) | exact HB.out))) : w.heap.size ≤ gb190)); have n3_ := Aside0.mk ((by rw [hg]; exact (below_size (by repeat (first | (with_reducible first | exact HB.out | apply lA_7 | apply lN_7 | apply lD_7) | exact HB.out))) : w.heap.size ≤ gb190)); clear HB; have HB := n0_; have BK190 := n1_; have GW190 := n2_; have GE190 := n3_; clear n0_ n1_ n2_ n3_; clear hb hbox hg) | ((with_reducible refine gate_dst (N := 3) rfl ?_); refine box_event ?hg (N := 3) ?hd (cs := #[.int .u64 a1_0, .int .u64 a1_1]) (t := 24) ?hr ?_; (case hd => rfl); (case hg => rfl); (case hr => first | (go_simp; done) | (go_simp; rfl)); intro gb191 hg w5 hbox hb; have n0_ := Aside0.mk (blk_below (g := gb190) (o := .cells #[.int .u64 a0_0, .int .u64 a0_1] 24 (0, 0)) (by (with_reducible repeat (first | apply bN_7 | apply bD_7 | apply bA_7)); exact BK190.out) hb); have n1_ := Aside0.mk (below_step (by repeat (first | (with_reducible first | exact HB.out | apply lA_7 | apply lN_7 | apply lD_7 | refine lS_7 ?_ GE190.out) | exact HB.out)) hb); have n2_ := Aside0.mk (hbox); have n3_ := Aside0.mk ((by rw [hg]; exact (below_size (by repeat (first | (with_reducible first | exact HB.out | apply lA_7 | apply lN_7 | apply lD_7 | refine lS_7 ?_ GE190.out) | exact HB.out))) : w.heap.size ≤ gb191)); have n4_ := Aside0.mk ((by rw [hg]; exact (below_size (by repeat (first | (with_reducible first | exact HB.out | apply lA_7 | apply lN_7 | apply lD_7 | refine lS_7 ?_ GE190.out) | exact HB.out))) : w.heap.size ≤ gb191)); have n5_ := Aside0.mk ((by rw [hg]; exact Nat.ne_of_lt (blk_lt (g := gb190) (o := .cells #[.int .u64 a0_0, .int .u64 a0_1] 24 (0, 0)) (by (with_reducible repeat (first | apply bN_7 | apply bD_7 | apply bA_7)); exact BK190.out)) : gb190 ≠ gb191)); have n6_ := Aside0.mk ((by rw [hg]; exact Nat.ne_of_gt (blk_lt (g := gb190) (o := .cells #[.int .u64 a0_0, .int .u64 a0_1] 24 (0, 0)) (by (with_reducible repeat (first | apply bN_7 | apply bD_7 | apply bA_7)); exact BK190.out)) : gb191 ≠ gb190)); clear BK190; clear HB; have BK190 := n0_; have HB := n1_; have BK191 := n2_; have GW191 := n3_; have GE191 := n4_; have NB190_191 := n5_; have NB191_190 := n6_; clear n0_ n1_ n2_ n3_ n4_ n5_ n6_; clear hb hbox hg) | ((with_reducible refine gate_dst (N := 4) rfl ?_); refine box_event ?hg (N := 4) ?hd (cs := #[.int .u64 0, .int .u64 0]) (t := 24) ?hr ?_; (case hd => rfl); (case hg => rfl); (case hr => first | (go_simp; done) | (go_simp; rfl)); intro gb192 hg w6 hbox hb; have n0_ := Aside0.mk (blk_below (g := gb190) (o := .cells #[.int .u64 a0_0, .int .u64 a0_1] 24 (0, 0)) (by (with_reducible repeat (first | apply bN_7 | apply bD_7 | apply bA_7)); exact BK190.out) hb); have n1_ := Aside0.mk (blk_below (g := gb191) (o := .cells #[.int .u64 a1_0, .int .u64 a1_1] 24 (0, 0)) (by (with_reducible repeat (first | apply bN_7 | apply bD_7 | apply bA_7)); exact BK191.out) hb); have n2_ := Aside0.mk (below_step (by repeat (first | (with_reducible first | exact HB.out | apply lA_7 | apply lN_7 | apply lD_7 | refine lS_7 ?_ GE190.out | refine lS_7 ?_ GE191.out) | exact HB.out)) hb); have n3_ := Aside0.mk (hbox); have n4_ := Aside0.mk ((by rw [hg]; exact (below_size (by repeat (first | (with_reducible first | exact HB.out | apply lA_7 | apply lN_7 | apply lD_7 | refine lS_7 ?_ GE190.out | refine lS_7 ?_ GE191.out) | exact HB.out))) : w.heap.size ≤ gb192)); have n5_ := Aside0.mk ((by rw [hg]; exact (below_size (by repeat (first | (with_reducible first | exact HB.out | apply lA_7 | apply lN_7 | apply lD_7 | refine lS_7 ?_ GE190.out | refine lS_7 ?_ GE191.out) | exact HB.out))) : w.heap.size ≤ gb192)); have n6_ := Aside0.mk ((by rw [hg]; exact Nat.ne_of_lt (blk_lt (g := gb190) (o := .cells #[.int .u64 a0_0, .int .u64 a0_1] 24 (0, 0)) (by (with_reducible repeat (first | apply bN_7 | apply bD_7 | apply bA_7)); exact BK190.out)) : gb190 ≠ gb192)); have n7_ := Aside0.mk ((by rw [hg]; exact Nat.ne_of_gt (blk_lt (g := gb190) (o := .cells #[.int .u64 a0_0, .int .u64 a0_1] 24 (0, 0)) (by (with_reducible repeat (first | apply bN_7 | apply bD_7 | apply bA_7)); exact BK190.out)) : gb192 ≠ gb190)); have n8_ := Aside0.mk ((by rw [hg]; exact Nat.ne_of_lt (blk_lt (g := gb191) (o := .cells #[.int .u64 a1_0, .int .u64 a1_1] 24 (0, 0)) (by (with_reducible repeat (first | apply bN_7 | apply bD_7 | apply bA_7)); exact BK191.out)) : gb191 ≠ gb192)); have n9_ := Aside0.mk ((by rw [hg]; exact Nat.ne_of_gt (blk_lt (g := gb191) (o := .cells #[.int .u64 a1_0, .int .u64 a1_1] 24 (0, 0)) (by (with_reducible repeat (first | apply bN_7 | apply bD_7 | apply bA_7)); exact BK191.out)) : gb192 ≠ gb191)); clear BK190; clear BK191; clear HB; have BK190 := n0_; have BK191 := n1_; have HB := n2_; have BK192 := n3_; have GW192 := n4_; have GE192 := n5_; have NB190_192 := n6_; have NB192_190 := n7_; have NB191_192 := n8_; have NB192_191 := n9_; clear n0_ n1_ n2_ n3_ n4_ n5_ n6_ n7_ n8_ n9_; clear hb hbox hg; have hnb7 := NB190_191.out; have hnc7 := NB191_190.out; have hnb8 := NB190_192.out; have hnc8 := NB192_190.out; have hcz9_0 : w6.cell? ⟨gb190, 0, none⟩ = some (.int .u64 a0_0) := (blk_cell BK190.out 0).trans rfl; have hcz9_1 : w6.cell? ⟨gb190, 1, none⟩ = some (.int .u64 a0_1) := (blk_cell BK190.out 1).trans rfl; have hfz9_0 := blk_frozen BK190.out 0; have hfz9_1 := blk_frozen BK190.out 1; have hnb10 := NB191_192.out; have hnc10 := NB192_191.out; have hcz11_0 : w6.cell? ⟨gb191, 0, none⟩ = some (.int .u64 a1_0) := (blk_cell BK191.out 0).trans rfl; have hcz11_1 : w6.cell? ⟨gb191, 1, none⟩ = some (.int .u64 a1_1) := (blk_cell BK191.out 1).trans rfl; have hfz11_0 := blk_frozen BK191.out 0; have hfz11_1 := blk_frozen BK191.out 1) | ((with_reducible refine gate_callee (f := 51) rfl ?_); refine goesL_ (some 27) rfl rfl Try.func51 (by kernel_rfl) rfl #[.int .u64 (IntKind.u64.wrap (a0_0 - a1_0)), .int .u64 (Go.bits .or .u64 (Go.bits .or .u64 (Go.bits .xor .u64 (IntKind.u64.wrap ((IntKind.u64.wrap (a0_0 - a1_0)) + a0_1)) (IntKind.u64.wrap ((IntKind.u64.wrap (a0_0 - a1_0)) - a1_1))) a0_1) a1_1)] rfl (by (try simp only [List.map_toArray, List.map_cons, List.map_nil]); first | done | rfl) ?_; (with_reducible refine (lockgateref03_without.calls (IntKind.u64.wrap (a0_0 - a1_0)) (Go.bits .or .u64 (Go.bits .or .u64 (Go.bits .xor .u64 (IntKind.u64.wrap ((IntKind.u64.wrap (a0_0 - a1_0)) + a0_1)) (IntKind.u64.wrap ((IntKind.u64.wrap (a0_0 - a1_0)) - a1_1))) a0_1) a1_1) t193 t194 _ A3.out).mono ?_); rintro e w12 ⟨rfl, hb⟩; refine ⟨_, rfl, ?_⟩; have n0_ := Aside0.mk (blk_below (g := gb190) (o := .cells #[.int .u64 a0_0, .int .u64 a0_1] 24 (0, 0)) (by (with_reducible repeat (first | apply bN_7 | apply bD_7 | apply bA_7)); exact BK190.out) hb); have n1_ := Aside0.mk (blk_below (g := gb191) (o := .cells #[.int .u64 a1_0, .int .u64 a1_1] 24 (0, 0)) (by (with_reducible repeat (first | apply bN_7 | apply bD_7 | apply bA_7)); exact BK191.out) hb); have n2_ := Aside0.mk (blk_below (g := gb192) (o := .cells #[.int .u64 0, .int .u64 0] 24 (0, 0)) (by (with_reducible repeat (first | apply bN_7 | apply bD_7 | apply bA_7)); exact BK192.out) hb); have n3_ := Aside0.mk (below_step (by repeat (first | (with_reducible first | exact HB.out | apply lA_7 | apply lN_7 | apply lD_7 | refine lS_7 ?_ GE190.out | refine lS_7 ?_ GE191.out | refine lS_7 ?_ GE192.out) | exact HB.out)) hb); clear BK190; clear BK191; clear BK192; clear HB; have BK190 := n0_; have BK191 := n1_; have BK192 := n2_; have HB := n3_; clear n0_ n1_ n2_ n3_; (try clear hb); (try clear hb2); (try clear hk); (try clear hi); have hcz13_0 : w12.cell? ⟨gb192, 0, none⟩ = some (.int .u64 0) := (blk_cell BK192.out 0).trans rfl; have hcz13_1 : w12.cell? ⟨gb192, 1, none⟩ = some (.int .u64 0) := (blk_cell BK192.out 1).trans rfl; have hfz13_0 := blk_frozen BK192.out 0; have hfz13_1 := blk_frozen BK192.out 1))
  refine bodyPost_ret (results_cell_row rfl _ _ gb192 24 #[.int .u64 t193, .int .u64 t194] (0, 0) _ rfl (by (with_reducible repeat (first | apply bN_7 | apply bD_7 | apply bA_7)); refine blk_put (cs := #[.int .u64 t193, .int .u64 0]) ?_ 1 _ rfl; (with_reducible repeat (first | apply bN_7 | apply bD_7 | apply bA_7)); refine blk_put (cs := #[.int .u64 0, .int .u64 0]) ?_ 0 _ rfl; (with_reducible repeat (first | apply bN_7 | apply bD_7 | apply bA_7)); exact BK192.out) Try.underlying24 rfl (by kernel_rfl)) rfl ?_
  exact ⟨by first | rfl | (simp [errW_none, errW_some] <;> rfl) | (simp [*, errW_none, errW_some] <;> rfl), by repeat (first | (with_reducible first | exact HB.out | apply lA_7 | apply lN_7 | apply lD_7 | refine lS_7 ?_ GE190.out | refine lS_7 ?_ GE191.out | refine lS_7 ?_ GE192.out) | exact HB.out)⟩

/-! ### lockgateref03_Of: function 26 -/
def lockgateref03_Of.f (a0 : Int) : Option (Int × Int) := some (a0, 0)
set_option maxHeartbeats 8000000 in
set_option maxRecDepth 100000 in
theorem lockgateref03_Of.calls (a0 : Int) (r1 : Int) (r2 : Int) (w : World) (h : lockgateref03_Of.f a0 = some (r1, r2)) :
    Calls Try.prog 26 #[.int .u64 a0] w fun e w' => e = .returned (.agg #[.int .u64 r1, .int .u64 r2]) ∧ Below w.heap.size w w' := by
  have hu24 := Try.underlying24
  have HB := Aside0.mk (Below.refl w.heap.size w)
  have H : (some (a0, 0)) = some (r1, r2) := h
  clear h
  simp only [Option.some.injEq, Prod.mk.injEq] at H
  obtain ⟨rfl, rfl⟩ := H
  go_enter Try.func26, Try.ntmps26
  go_wp2_with (first | ((with_reducible refine gate_dst (N := 2) rfl ?_); refine box_event ?hg (N := 2) ?hd (cs := #[.int .u64 0, .int .u64 0]) (t := 24) ?hr ?_; (case hd => rfl); (case hg => rfl); (case hr => first | (go_simp; done) | (go_simp; rfl)); intro gb195 hg w2 hbox hb; have n0_ := Aside0.mk (below_step (by repeat (first | (with_reducible first | exact HB.out | apply lA_7 | apply lN_7 | apply lD_7) | exact HB.out)) hb); have n1_ := Aside0.mk (hbox); have n2_ := Aside0.mk ((by rw [hg]; exact (below_size (by repeat (first | (with_reducible first | exact HB.out | apply lA_7 | apply lN_7 | apply lD_7) | exact HB.out))) : w.heap.size ≤ gb195)); have n3_ := Aside0.mk ((by rw [hg]; exact (below_size (by repeat (first | (with_reducible first | exact HB.out | apply lA_7 | apply lN_7 | apply lD_7) | exact HB.out))) : w.heap.size ≤ gb195)); clear HB; have HB := n0_; have BK195 := n1_; have GW195 := n2_; have GE195 := n3_; clear n0_ n1_ n2_ n3_; clear hb hbox hg; have hcz3_0 : w2.cell? ⟨gb195, 0, none⟩ = some (.int .u64 0) := (blk_cell BK195.out 0).trans rfl; have hcz3_1 : w2.cell? ⟨gb195, 1, none⟩ = some (.int .u64 0) := (blk_cell BK195.out 1).trans rfl; have hfz3_0 := blk_frozen BK195.out 0; have hfz3_1 := blk_frozen BK195.out 1))
  refine bodyPost_ret (results_cell_row rfl _ _ gb195 24 #[.int .u64 a0, .int .u64 0] (0, 0) _ rfl (by (with_reducible repeat (first | apply bN_7 | apply bD_7 | apply bA_7)); refine blk_put (cs := #[.int .u64 a0, .int .u64 0]) ?_ 1 _ rfl; (with_reducible repeat (first | apply bN_7 | apply bD_7 | apply bA_7)); refine blk_put (cs := #[.int .u64 0, .int .u64 0]) ?_ 0 _ rfl; (with_reducible repeat (first | apply bN_7 | apply bD_7 | apply bA_7)); exact BK195.out) Try.underlying24 rfl (by kernel_rfl)) rfl ?_
  exact ⟨by first | rfl | (simp [errW_none, errW_some] <;> rfl) | (simp [*, errW_none, errW_some] <;> rfl), by repeat (first | (with_reducible first | exact HB.out | apply lA_7 | apply lN_7 | apply lD_7 | refine lS_7 ?_ GE195.out) | exact HB.out)⟩

/-! ### lockgateref03_Mul: function 22 -/
def lockgateref03_Mul.l0 : Nat → Int → Int → Int → Int → Int → Int → Int → Option (Int × Int)
  | 0, _, _, _, _, _, _, _ => none
  | k + 1, x6, x197000, x197001, x198000, x198001, x202000, x202001 => if x6 < 64 then (if 0 ≤ x6 then (if (Int.tmod (shr .u64 x197000 x6) 2) = 1 then ((lockgateref03_Add.f x202000 x202001 0 (shl .u64 x198001 x6)).bind fun bt206 => (lockgateref03_Mul.l0 k (IntKind.u64.wrap (x6 + 1)) x197000 x197001 x198000 x198001 bt206.1 bt206.2)) else (if (Int.tmod (shr .u64 x197001 x6) 2) = 1 then ((lockgateref03_Add.f x202000 x202001 0 (shl .u64 (Go.bits .or .u64 x198000 x198001) x6)).bind fun bt208 => (lockgateref03_Mul.l0 k (IntKind.u64.wrap (x6 + 1)) x197000 x197001 x198000 x198001 bt208.1 bt208.2)) else (lockgateref03_Mul.l0 k (IntKind.u64.wrap (x6 + 1)) x197000 x197001 x198000 x198001 x202000 x202001))) else (none)) else ((lockgateref03_Of.f (IntKind.u64.wrap (x197000 * x198000))).bind fun bt202 => ((lockgateref03_Add.f bt202.1 bt202.2 x202000 x202001).bind fun bt204 => (some (bt204.1, bt204.2))))
def lockgateref03_Mul.f (k : Nat) (a0_0 : Int) (a0_1 : Int) (a1_0 : Int) (a1_1 : Int) : Option (Int × Int) := (lockgateref03_Of.f 0).bind fun bt199 => (lockgateref03_Mul.l0 k 0 a0_0 a0_1 a1_0 a1_1 bt199.1 bt199.2)
theorem lockgateref03_Mul.mono_l : ∀ k, (∀ y0 y1 y2 y3 y4 y5 y6, LeO (lockgateref03_Mul.l0 k y0 y1 y2 y3 y4 y5 y6) (lockgateref03_Mul.l0 (k + 1) y0 y1 y2 y3 y4 y5 y6))
  | 0 => fun _ _ _ _ _ _ _ r h => by simp [lockgateref03_Mul.l0] at h
  | k + 1 => by
    have ih0 := lockgateref03_Mul.mono_l k
    · intro y0 y1 y2 y3 y4 y5 y6
      unfold lockgateref03_Mul.l0
      repeat' first
      | (with_reducible exact ih0 _ _ _ _ _ _ _)
      | (with_reducible exact LeO.refl _)
      | (with_reducible exact LeO.none _)
      | (with_reducible refine LeO.ite ?_ ?_)
      | (with_reducible refine LeO.bind ?_ (fun _ => ?_))
      | exact ih0 _ _ _ _ _ _ _
      | exact LeO.none _
      | refine LeO.ite ?_ ?_
      | refine LeO.bind ?_ (fun _ => ?_)
theorem lockgateref03_Mul.mono : ∀ a0 a1 a2 a3 k, LeO (lockgateref03_Mul.f k a0 a1 a2 a3) (lockgateref03_Mul.f (k + 1) a0 a1 a2 a3) := by
  intro a0 a1 a2 a3 k
  have ih0 := lockgateref03_Mul.mono_l k
  unfold lockgateref03_Mul.f
  repeat' first
      | (with_reducible exact ih0 _ _ _ _ _ _ _)
      | (with_reducible exact LeO.refl _)
      | (with_reducible exact LeO.none _)
      | (with_reducible refine LeO.ite ?_ ?_)
      | (with_reducible refine LeO.bind ?_ (fun _ => ?_))
      | exact ih0 _ _ _ _ _ _ _
      | exact LeO.none _
      | refine LeO.ite ?_ ?_
      | refine LeO.bind ?_ (fun _ => ?_)
def lockgateref03_Mul.T9 : Bool × List (List Nat × List Nat) := (true, [([], []), ([0], [0]), ([], []), ([2], [2]), ([1, 3], [1, 3]), ([4], [4]), ([], []), ([5, 6, 5], [5, 6]), ([7, 7, 0, 1, 2, 3, 4, 5, 6, 7], [7])])
def lockgateref03_Mul.B9 : List Nat := [0, 1, 0, 4, 15, 31, 0, 127, 255]
theorem lockgateref03_Mul.tab9 : rtab .any (opsOf Try.f22 9) = lockgateref03_Mul.T9 := by kernel_rfl
theorem lockgateref03_Mul.bits9 : waitsOk lockgateref03_Mul.T9.2 lockgateref03_Mul.B9 = true := by kernel_rfl
set_option maxHeartbeats 8000000 in
set_option maxRecDepth 100000 in
theorem lockgateref03_Mul.calls (k : Nat) (a0_0 : Int) (a0_1 : Int) (a1_0 : Int) (a1_1 : Int) (r1 : Int) (r2 : Int) (w : World) (h : lockgateref03_Mul.f k a0_0 a0_1 a1_0 a1_1 = some (r1, r2)) :
    Calls Try.prog 22 #[.agg #[.int .u64 a0_0, .int .u64 a0_1], .agg #[.int .u64 a1_0, .int .u64 a1_1]] w fun e w' => e = .returned (.agg #[.int .u64 r1, .int .u64 r2]) ∧ Below w.heap.size w w' := by
  have hu24 := Try.underlying24
  have HB := Aside0.mk (Below.refl w.heap.size w)
  have H : ((lockgateref03_Of.f 0).bind fun bt199 => (lockgateref03_Mul.l0 k 0 a0_0 a0_1 a1_0 a1_1 bt199.1 bt199.2)) = some (r1, r2) := h
  clear h
  replace H := Option.bind_eq_some_iff.mp H
  obtain ⟨⟨t199, t200⟩, A30, H⟩ := H
  replace H : (lockgateref03_Mul.l0 k 0 a0_0 a0_1 a1_0 a1_1 t199 t200) = some (r1, r2) := H
  have A3 := Aside0.mk A30
  clear A30
  have H' := Aside0.mk H
  clear H
  go_enter Try.func22, Try.ntmps22
  go_wp2_with (first | ((with_reducible refine gate_dst (N := 2) rfl ?_); refine box_event ?hg (N := 2) ?hd (cs := #[.int .u64 a0_0, .int .u64 a0_1]) (t := 24) ?hr ?_; (case hd => rfl); (case hg => rfl); (case hr => first | (go_simp; done) | (go_simp; rfl)); intro gb196 hg w4 hbox hb; have n0_ := Aside0.mk (below_step (by repeat (first | (with_reducible first | exact HB.out | apply lA_7 | apply lN_7 | apply lD_7) | exact HB.out)) hb); have n1_ := Aside0.mk (hbox); have n2_ := Aside0.mk ((by rw [hg]; exact (below_size (by repeat (first | (with_reducible first | exact HB.out | apply lA_7 | apply lN_7 | apply lD_7) | exact HB.out))) : w.heap.size ≤ gb196)); have n3_ := Aside0.mk ((by rw [hg]; exact (below_size (by repeat (first | (with_reducible first | exact HB.out | apply lA_7 | apply lN_7 | apply lD_7) | exact HB.out))) : w.heap.size ≤ gb196)); clear HB; have HB := n0_; have BK196 := n1_; have GW196 := n2_; have GE196 := n3_; clear n0_ n1_ n2_ n3_; clear hb hbox hg) | ((with_reducible refine gate_dst (N := 3) rfl ?_); refine box_event ?hg (N := 3) ?hd (cs := #[.int .u64 a1_0, .int .u64 a1_1]) (t := 24) ?hr ?_; (case hd => rfl); (case hg => rfl); (case hr => first | (go_simp; done) | (go_simp; rfl)); intro gb197 hg w5 hbox hb; have n0_ := Aside0.mk (blk_below (g := gb196) (o := .cells #[.int .u64 a0_0, .int .u64 a0_1] 24 (0, 0)) (by (with_reducible repeat (first | apply bN_7 | apply bD_7 | apply bA_7)); exact BK196.out) hb); have n1_ := Aside0.mk (below_step (by repeat (first | (with_reducible first | exact HB.out | apply lA_7 | apply lN_7 | apply lD_7 | refine lS_7 ?_ GE196.out) | exact HB.out)) hb); have n2_ := Aside0.mk (hbox); have n3_ := Aside0.mk ((by rw [hg]; exact (below_size (by repeat (first | (with_reducible first | exact HB.out | apply lA_7 | apply lN_7 | apply lD_7 | refine lS_7 ?_ GE196.out) | exact HB.out))) : w.heap.size ≤ gb197)); have n4_ := Aside0.mk ((by rw [hg]; exact (below_size (by repeat (first | (with_reducible first | exact HB.out | apply lA_7 | apply lN_7 | apply lD_7 | refine lS_7 ?_ GE196.out) | exact HB.out))) : w.heap.size ≤ gb197)); have n5_ := Aside0.mk ((by rw [hg]; exact Nat.ne_of_lt (blk_lt (g := gb196) (o := .cells #[.int .u64 a0_0, .int .u64 a0_1] 24 (0, 0)) (by (with_reducible repeat (first | apply bN_7 | apply bD_7 | apply bA_7)); exact BK196.out)) : gb196 ≠ gb197)); have n6_ := Aside0.mk ((by rw [hg]; exact Nat.ne_of_gt (blk_lt (g := gb196) (o := .cells #[.int .u64 a0_0, .int .u64 a0_1] 24 (0, 0)) (by (with_reducible repeat (first | apply bN_7 | apply bD_7 | apply bA_7)); exact BK196.out)) : gb197 ≠ gb196)); clear BK196; clear HB; have BK196 := n0_; have HB := n1_; have BK197 := n2_; have GW197 := n3_; have GE197 := n4_; have NB196_197 := n5_; have NB197_196 := n6_; clear n0_ n1_ n2_ n3_ n4_ n5_ n6_; clear hb hbox hg) | ((with_reducible refine gate_dst (N := 4) rfl ?_); refine box_event ?hg (N := 4) ?hd (cs := #[.int .u64 0, .int .u64 0]) (t := 24) ?hr ?_; (case hd => rfl); (case hg => rfl); (case hr => first | (go_simp; done) | (go_simp; rfl)); intro gb198 hg w6 hbox hb; have n0_ := Aside0.mk (blk_below (g := gb196) (o := .cells #[.int .u64 a0_0, .int .u64 a0_1] 24 (0, 0)) (by (with_reducible repeat (first | apply bN_7 | apply bD_7 | apply bA_7)); exact BK196.out) hb); have n1_ := Aside0.mk (blk_below (g := gb197) (o := .cells #[.int .u64 a1_0, .int .u64 a1_1] 24 (0, 0)) (by (with_reducible repeat (first | apply bN_7 | apply bD_7 | apply bA_7)); exact BK197.out) hb); have n2_ := Aside0.mk (below_step (by repeat (first | (with_reducible first | exact HB.out | apply lA_7 | apply lN_7 | apply lD_7 | refine lS_7 ?_ GE196.out | refine lS_7 ?_ GE197.out) | exact HB.out)) hb); have n3_ := Aside0.mk (hbox); have n4_ := Aside0.mk ((by rw [hg]; exact (below_size (by repeat (first | (with_reducible first | exact HB.out | apply lA_7 | apply lN_7 | apply lD_7 | refine lS_7 ?_ GE196.out | refine lS_7 ?_ GE197.out) | exact HB.out))) : w.heap.size ≤ gb198)); have n5_ := Aside0.mk ((by rw [hg]; exact (below_size (by repeat (first | (with_reducible first | exact HB.out | apply lA_7 | apply lN_7 | apply lD_7 | refine lS_7 ?_ GE196.out | refine lS_7 ?_ GE197.out) | exact HB.out))) : w.heap.size ≤ gb198)); have n6_ := Aside0.mk ((by rw [hg]; exact Nat.ne_of_lt (blk_lt (g := gb196) (o := .cells #[.int .u64 a0_0, .int .u64 a0_1] 24 (0, 0)) (by (with_reducible repeat (first | apply bN_7 | apply bD_7 | apply bA_7)); exact BK196.out)) : gb196 ≠ gb198)); have n7_ := Aside0.mk ((by rw [hg]; exact Nat.ne_of_gt (blk_lt (g := gb196) (o := .cells #[.int .u64 a0_0, .int .u64 a0_1] 24 (0, 0)) (by (with_reducible repeat (first | apply bN_7 | apply bD_7 | apply bA_7)); exact BK196.out)) : gb198 ≠ gb196)); have n8_ := Aside0.mk ((by rw [hg]; exact Nat.ne_of_lt (blk_lt (g := gb197) (o := .cells #[.int .u64 a1_0, .int .u64 a1_1] 24 (0, 0)) (by (with_reducible repeat (first | apply bN_7 | apply bD_7 | apply bA_7)); exact BK197.out)) : gb197 ≠ gb198)); have n9_ := Aside0.mk ((by rw [hg]; exact Nat.ne_of_gt (blk_lt (g := gb197) (o := .cells #[.int .u64 a1_0, .int .u64 a1_1] 24 (0, 0)) (by (with_reducible repeat (first | apply bN_7 | apply bD_7 | apply bA_7)); exact BK197.out)) : gb198 ≠ gb197)); clear BK196; clear BK197; clear HB; have BK196 := n0_; have BK197 := n1_; have HB := n2_; have BK198 := n3_; have GW198 := n4_; have GE198 := n5_; have NB196_198 := n6_; have NB198_196 := n7_; have NB197_198 := n8_; have NB198_197 := n9_; clear n0_ n1_ n2_ n3_ n4_ n5_ n6_ n7_ n8_ n9_; clear hb hbox hg) | ((with_reducible refine gate_callee (f := 26) rfl ?_); refine goesL_ (some 7) rfl rfl Try.func26 (by kernel_rfl) rfl #[.int .u64 0] rfl (by (try simp only [List.map_toArray, List.map_cons, List.map_nil]); first | done | rfl) ?_; (with_reducible refine (lockgateref03_Of.calls 0 t199 t200 _ A3.out).mono ?_); rintro e w7 ⟨rfl, hb⟩; refine ⟨_, rfl, ?_⟩; have n0_ := Aside0.mk (blk_below (g := gb196) (o := .cells #[.int .u64 a0_0, .int .u64 a0_1] 24 (0, 0)) (by (with_reducible repeat (first | apply bN_7 | apply bD_7 | apply bA_7)); exact BK196.out) hb); have n1_ := Aside0.mk (blk_below (g := gb197) (o := .cells #[.int .u64 a1_0, .int .u64 a1_1] 24 (0, 0)) (by (with_reducible repeat (first | apply bN_7 | apply bD_7 | apply bA_7)); exact BK197.out) hb); have n2_ := Aside0.mk (blk_below (g := gb198) (o := .cells #[.int .u64 0, .int .u64 0] 24 (0, 0)) (by (with_reducible repeat (first | apply bN_7 | apply bD_7 | apply bA_7)); exact BK198.out) hb); have n3_ := Aside0.mk (below_step (by repeat (first | (with_reducible first | exact HB.out | apply lA_7 | apply lN_7 | apply lD_7 | refine lS_7 ?_ GE196.out | refine lS_7 ?_ GE197.out | refine lS_7 ?_ GE198.out) | exact HB.out)) hb); clear BK196; clear BK197; clear BK198; clear HB; have BK196 := n0_; have BK197 := n1_; have BK198 := n2_; have HB := n3_; clear n0_ n1_ n2_ n3_; (try clear hb); (try clear hb2); (try clear hk); (try clear hi)) | ((with_reducible refine gate_dst (N := 5) rfl ?_); refine box_event ?hg (N := 5) ?hd (cs := #[.int .u64 0, .int .u64 0]) (t := 24) ?hr ?_; (case hd => rfl); (case hg => rfl); (case hr => first | (go_simp; done) | (go_simp; rfl)); intro gb201 hg w8 hbox hb; have n0_ := Aside0.mk (blk_below (g := gb196) (o := .cells #[.int .u64 a0_0, .int .u64 a0_1] 24 (0, 0)) (by (with_reducible repeat (first | apply bN_7 | apply bD_7 | apply bA_7)); exact BK196.out) hb); have n1_ := Aside0.mk (blk_below (g := gb197) (o := .cells #[.int .u64 a1_0, .int .u64 a1_1] 24 (0, 0)) (by (with_reducible repeat (first | apply bN_7 | apply bD_7 | apply bA_7)); exact BK197.out) hb); have n2_ := Aside0.mk (blk_below (g := gb198) (o := .cells #[.int .u64 0, .int .u64 0] 24 (0, 0)) (by (with_reducible repeat (first | apply bN_7 | apply bD_7 | apply bA_7)); exact BK198.out) hb); have n3_ := Aside0.mk (below_step (by repeat (first | (with_reducible first | exact HB.out | apply lA_7 | apply lN_7 | apply lD_7 | refine lS_7 ?_ GE196.out | refine lS_7 ?_ GE197.out | refine lS_7 ?_ GE198.out) | exact HB.out)) hb); have n4_ := Aside0.mk (hbox); have n5_ := Aside0.mk ((by rw [hg]; exact (below_size (by repeat (first | (with_reducible first | exact HB.out | apply lA_7 | apply lN_7 | apply lD_7 | refine lS_7 ?_ GE196.out | refine lS_7 ?_ GE197.out | refine lS_7 ?_ GE198.out) | exact HB.out))) : w.heap.size ≤ gb201)); have n6_ := Aside0.mk ((by rw [hg]; exact (below_size (by repeat (first | (with_reducible first | exact HB.out | apply lA_7 | apply lN_7 | apply lD_7 | refine lS_7 ?_ GE196.out | refine lS_7 ?_ GE197.out | refine lS_7 ?_ GE198.out) | exact HB.out))) : w.heap.size ≤ gb201)); have n7_ := Aside0.mk ((by rw [hg]; exact Nat.ne_of_lt (blk_lt (g := gb196) (o := .cells #[.int .u64 a0_0, .int .u64 a0_1] 24 (0, 0)) (by (with_reducible repeat (first | apply bN_7 | apply bD_7 | apply bA_7)); exact BK196.out)) : gb196 ≠ gb201)); have n8_ := Aside0.mk ((by rw [hg]; exact Nat.ne_of_gt (blk_lt (g := gb196) (o := .cells #[.int .u64 a0_0, .int .u64 a0_1] 24 (0, 0)) (by (with_reducible repeat (first | apply bN_7 | apply bD_7 | apply bA_7)); exact BK196.out)) : gb201 ≠ gb196)); have n9_ := Aside0.mk ((by rw [hg]; exact Nat.ne_of_lt (blk_lt (g := gb197) (o := .cells #[.int .u64 a1_0, .int .u64 a1_1] 24 (0, 0)) (by (with_reducible repeat (first | apply bN_7 | apply bD_7 | apply bA_7)); exact BK197.out)) : gb197 ≠ gb201)); have n10_ := Aside0.mk ((by rw [hg]; exact Nat.ne_of_gt (blk_lt (g := gb197) (o := .cells #[.int .u64 a1_0, .int .u64 a1_1] 24 (0, 0)) (by (with_reducible repeat (first | apply bN_7 | apply bD_7 | apply bA_7)); exact BK197.out)) : gb201 ≠ gb197)); have n11_ := Aside0.mk ((by rw [hg]; exact Nat.ne_of_lt (blk_lt (g := gb198) (o := .cells #[.int .u64 0, .int .u64 0] 24 (0, 0)) (by (with_reducible repeat (first | apply bN_7 | apply bD_7 | apply bA_7)); exact BK198.out)) : gb198 ≠ gb201)); have n12_ := Aside0.mk ((by rw [hg]; exact Nat.ne_of_gt (blk_lt (g := gb198) (o := .cells #[.int .u64 0, .int .u64 0] 24 (0, 0)) (by (with_reducible repeat (first | apply bN_7 | apply bD_7 | apply bA_7)); exact BK198.out)) : gb201 ≠ gb198)); clear BK196; clear BK197; clear BK198; clear HB; have BK196 := n0_; have BK197 := n1_; have BK198 := n2_; have HB := n3_; have BK201 := n4_; have GW201 := n5_; have GE201 := n6_; have NB196_201 := n7_; have NB201_196 := n8_; have NB197_201 := n9_; have NB201_197 := n10_; have NB198_201 := n11_; have NB201_198 := n12_; clear n0_ n1_ n2_ n3_ n4_ n5_ n6_ n7_ n8_ n9_ n10_ n11_ n12_; clear hb hbox hg; have hnb9 := NB201_196.out; have hnc9 := NB196_201.out; have hnb10 := NB201_197.out; have hnc10 := NB197_201.out; have hnb11 := NB201_198.out; have hnc11 := NB198_201.out; have hcz12_0 : w8.cell? ⟨gb201, 0, none⟩ = some (.int .u64 0) := (blk_cell BK201.out 0).trans rfl; have hcz12_1 : w8.cell? ⟨gb201, 1, none⟩ = some (.int .u64 0) := (blk_cell BK201.out 1).trans rfl; have hfz12_0 := blk_frozen BK201.out 0; have hfz12_1 := blk_frozen BK201.out 1))
  go_loopg [6] k (fun kq v6 w' => ∃ (x6_1 : Int) (x202000_1 : Int) (x202001_1 : Int), v6 = .int .u64 x6_1 ∧ Aside0 (lockgateref03_Mul.l0 kq x6_1 a0_0 a0_1 a1_0 a1_1 x202000_1 x202001_1 = some (r1, r2)) ∧ Aside0 (kq ≤ k) ∧ Aside0 (w'.heap[gb196]? = some (.cells #[.int .u64 a0_0, .int .u64 a0_1] 24 (0, 0))) ∧ Aside0 (w'.heap[gb197]? = some (.cells #[.int .u64 a1_0, .int .u64 a1_1] 24 (0, 0))) ∧ Aside0 (w'.heap[gb198]? = some (.cells #[.int .u64 0, .int .u64 0] 24 (0, 0))) ∧ Aside0 (w'.heap[gb201]? = some (.cells #[.int .u64 x202000_1, .int .u64 x202001_1] 24 (0, 0))) ∧ Aside0 (Below w.heap.size w w'))
  case atStart => exact ⟨(0), (t199), (t200), (by first | rfl | (simp; done) | (simp [*]; done)), H', ⟨Nat.le_refl _⟩, ⟨by (with_reducible repeat (first | apply bN_7 | apply bD_7 | apply bA_7)); refine blk_far ?_ NB196_201.out _; (with_reducible repeat (first | apply bN_7 | apply bD_7 | apply bA_7)); refine blk_far ?_ NB196_201.out _; (with_reducible repeat (first | apply bN_7 | apply bD_7 | apply bA_7)); exact BK196.out⟩, ⟨by (with_reducible repeat (first | apply bN_7 | apply bD_7 | apply bA_7)); refine blk_far ?_ NB197_201.out _; (with_reducible repeat (first | apply bN_7 | apply bD_7 | apply bA_7)); refine blk_far ?_ NB197_201.out _; (with_reducible repeat (first | apply bN_7 | apply bD_7 | apply bA_7)); exact BK197.out⟩, ⟨by (with_reducible repeat (first | apply bN_7 | apply bD_7 | apply bA_7)); refine blk_far ?_ NB198_201.out _; (with_reducible repeat (first | apply bN_7 | apply bD_7 | apply bA_7)); refine blk_far ?_ NB198_201.out _; (with_reducible repeat (first | apply bN_7 | apply bD_7 | apply bA_7)); exact BK198.out⟩, ⟨by (with_reducible repeat (first | apply bN_7 | apply bD_7 | apply bA_7)); refine blk_put (cs := #[.int .u64 t199, .int .u64 0]) ?_ 1 _ rfl; (with_reducible repeat (first | apply bN_7 | apply bD_7 | apply bA_7)); refine blk_put (cs := #[.int .u64 0, .int .u64 0]) ?_ 0 _ rfl; (with_reducible repeat (first | apply bN_7 | apply bD_7 | apply bA_7)); exact BK201.out⟩, ⟨by repeat (first | (with_reducible first | exact HB.out | apply lA_7 | apply lN_7 | apply lD_7 | refine lS_7 ?_ GE196.out | refine lS_7 ?_ GE197.out | refine lS_7 ?_ GE198.out | refine lS_7 ?_ GE201.out) | exact HB.out)⟩⟩
  case round =>
    clear H'
    try clear c1
    try clear c2
    try clear p2
    try clear c9
    try clear c10
    try clear c11
    try clear hcz12_0
    try clear hcz12_1
    try clear hfz12_0
    try clear hfz12_1
    obtain ⟨x6_1, x202000_1, x202001_1, rfl, HA, HK1, BK196, BK197, BK198, BK201, HB⟩ := hrel
    cases gk with
    | zero => exact absurd HA.out (by simp [lockgateref03_Mul.l0])
    | succ k1 =>
      have H := HA.out
      clear HA
      simp only [lockgateref03_Mul.l0] at H
      by_cases c13 : x6_1 < 64
      · rw [if_pos c13] at H
        have c13b0 : decide (x6_1 < 64) = true := decide_eq_true c13
        clear c13
        by_cases c14 : 0 ≤ x6_1
        · rw [if_pos c14] at H
          have c14b0 := eq_true c14
          have c14b1 : decide (0 ≤ x6_1) = true := decide_eq_true c14
          clear c14
          obtain ⟨ji15, hji15⟩ : ∃ j_ : Int, (shr .u64 a0_0 x6_1) = j_ := ⟨_, rfl⟩
          replace H : (if (Int.tmod (ji15) 2) = 1 then ((lockgateref03_Add.f x202000_1 x202001_1 0 (shl .u64 a1_1 x6_1)).bind fun bt206 => (lockgateref03_Mul.l0 k1 (IntKind.u64.wrap (x6_1 + 1)) a0_0 a0_1 a1_0 a1_1 bt206.1 bt206.2)) else (if (Int.tmod (shr .u64 a0_1 x6_1) 2) = 1 then ((lockgateref03_Add.f x202000_1 x202001_1 0 (shl .u64 (Go.bits .or .u64 a1_0 a1_1) x6_1)).bind fun bt208 => (lockgateref03_Mul.l0 k1 (IntKind.u64.wrap (x6_1 + 1)) a0_0 a0_1 a1_0 a1_1 bt208.1 bt208.2)) else (lockgateref03_Mul.l0 k1 (IntKind.u64.wrap (x6_1 + 1)) a0_0 a0_1 a1_0 a1_1 x202000_1 x202001_1))) = some (r1, r2) := by first | (rw [hji15] at H; exact H) | (simp only [hji15] at H ⊢; exact H)
          have hji15_ : (a0_0 / 2 ^ min x6_1.toNat 64) = ji15 := hji15
          have hji15z : x6_1 ≤ 64 → (a0_0 / 2 ^ x6_1.toNat) = ji15 := shr_small hji15
          by_cases c16 : (Int.tmod (ji15) 2) = 1
          · rw [if_pos c16] at H
            have c16b0 : ((Int.tmod (ji15) 2) == 1) = true := beq_iff_eq.mpr c16
            have c16b1 : ((Int.tmod (ji15) 2) != 1) = false := bne_eq_false_iff_eq.mpr c16
            clear c16
            have c17b0 := eq_true (of_decide_eq_true (by first | (with_reducible assumption) | assumption) : 0 ≤ x6_1)
            obtain ⟨ji18, hji18⟩ : ∃ j_ : Int, (shl .u64 a1_1 x6_1) = j_ := ⟨_, rfl⟩
            replace H : ((lockgateref03_Add.f x202000_1 x202001_1 0 (ji18)).bind fun bt206 => (lockgateref03_Mul.l0 k1 (IntKind.u64.wrap (x6_1 + 1)) a0_0 a0_1 a1_0 a1_1 bt206.1 bt206.2)) = some (r1, r2) := by first | (rw [hji18] at H; exact H) | (simp only [hji18] at H ⊢; exact H)
            have hji18_ : (IntKind.u64.wrap (a1_1 * 2 ^ min x6_1.toNat 64)) = ji18 := hji18
            have hji18z : x6_1 ≤ 64 → (IntKind.u64.wrap (a1_1 * 2 ^ x6_1.toNat)) = ji18 := shl_small hji18
            replace H := Option.bind_eq_some_iff.mp H
            obtain ⟨⟨t206, t207⟩, A190, H⟩ := H
            replace H : (lockgateref03_Mul.l0 k1 (IntKind.u64.wrap (x6_1 + 1)) a0_0 a0_1 a1_0 a1_1 t206 t207) = some (r1, r2) := H
            have A19 := Aside0.mk A190
            clear A190
            have H' := Aside0.mk H
            clear H
            have hnb20 := NB196_197.out
            have hnc20 := NB197_196.out
            have hnb21 := NB196_198.out
            have hnc21 := NB198_196.out
            have hnb22 := NB196_201.out
            have hnc22 := NB201_196.out
            have hcz23_0 : wr.cell? ⟨gb196, 0, none⟩ = some (.int .u64 a0_0) := (blk_cell BK196.out 0).trans rfl
            have hcz23_1 : wr.cell? ⟨gb196, 1, none⟩ = some (.int .u64 a0_1) := (blk_cell BK196.out 1).trans rfl
            have hfz23_0 := blk_frozen BK196.out 0
            have hfz23_1 := blk_frozen BK196.out 1
            have hnb24 := NB201_197.out
            have hnc24 := NB197_201.out
            have hnb25 := NB201_198.out
            have hnc25 := NB198_201.out
            have hcz26_0 : wr.cell? ⟨gb201, 0, none⟩ = some (.int .u64 x202000_1) := (blk_cell BK201.out 0).trans rfl
            have hcz26_1 : wr.cell? ⟨gb201, 1, none⟩ = some (.int .u64 x202001_1) := (blk_cell BK201.out 1).trans rfl
            have hfz26_0 := blk_frozen BK201.out 0
            have hfz26_1 := blk_frozen BK201.out 1
            have hnb27 := NB197_198.out
            have hnc27 := NB198_197.out
            have hcz28_0 : wr.cell? ⟨gb197, 0, none⟩ = some (.int .u64 a1_0) := (blk_cell BK197.out 0).trans rfl
            have hcz28_1 : wr.cell? ⟨gb197, 1, none⟩ = some (.int .u64 a1_1) := (blk_cell BK197.out 1).trans rfl
            have hfz28_0 := blk_frozen BK197.out 0
            have hfz28_1 := blk_frozen BK197.out 1
            go_wp2_with (first | ((with_reducible refine gate_callee (f := 18) rfl ?_); refine goesL_ (some 24) rfl rfl Try.func18 (by kernel_rfl) rfl #[.agg #[.int .u64 x202000_1, .int .u64 x202001_1], .agg #[.int .u64 0, .int .u64 ji18]] rfl (by (try simp only [List.map_toArray, List.map_cons, List.map_nil]); first | done | (simp only [hji18]; rfl) | rfl | (simp only [List.length_drop, List.length_take]; rfl)) ?_; (with_reducible refine (lockgateref03_Add.calls x202000_1 x202001_1 0 ji18 t206 t207 _ A19.out).mono ?_); rintro e w29 ⟨rfl, hb⟩; refine ⟨_, rfl, ?_⟩; have n0_ := Aside0.mk (blk_below (g := gb196) (o := .cells #[.int .u64 a0_0, .int .u64 a0_1] 24 (0, 0)) (by (with_reducible repeat (first | apply bN_7 | apply bD_7 | apply bA_7)); exact BK196.out) hb); have n1_ := Aside0.mk (blk_below (g := gb197) (o := .cells #[.int .u64 a1_0, .int .u64 a1_1] 24 (0, 0)) (by (with_reducible repeat (first | apply bN_7 | apply bD_7 | apply bA_7)); exact BK197.out) hb); have n2_ := Aside0.mk (blk_below (g := gb198) (o := .cells #[.int .u64 0, .int .u64 0] 24 (0, 0)) (by (with_reducible repeat (first | apply bN_7 | apply bD_7 | apply bA_7)); exact BK198.out) hb); have n3_ := Aside0.mk (blk_below (g := gb201) (o := .cells #[.int .u64 x202000_1, .int .u64 x202001_1] 24 (0, 0)) (by (with_reducible repeat (first | apply bN_7 | apply bD_7 | apply bA_7)); exact BK201.out) hb); have n4_ := Aside0.mk (below_step (by repeat (first | (with_reducible first | exact HB.out | apply lA_7 | apply lN_7 | apply lD_7 | refine lS_7 ?_ GE196.out | refine lS_7 ?_ GE197.out | refine lS_7 ?_ GE198.out | refine lS_7 ?_ GE201.out) | exact HB.out)) hb); clear BK196; clear BK197; clear BK198; clear BK201; clear HB; have BK196 := n0_; have BK197 := n1_; have BK198 := n2_; have BK201 := n3_; have HB := n4_; clear n0_ n1_ n2_ n3_ n4_; (try clear hb); (try clear hb2); (try clear hk); (try clear hi); have hcz30_0 : w29.cell? ⟨gb201, 0, none⟩ = some (.int .u64 x202000_1) := (blk_cell BK201.out 0).trans rfl; have hcz30_1 : w29.cell? ⟨gb201, 1, none⟩ = some (.int .u64 x202001_1) := (blk_cell BK201.out 1).trans rfl; have hfz30_0 := blk_frozen BK201.out 0; have hfz30_1 := blk_frozen BK201.out 1))
            go_roundg k1
            case measure => have := HK1.out; omega
            case rel => exact ⟨(IntKind.u64.wrap (x6_1 + 1)), (t206), (t207), (by first | rfl | (simp; done) | (simp [*]; done)), H', ⟨by have := HK1.out; omega⟩, ⟨by (with_reducible repeat (first | apply bN_7 | apply bD_7 | apply bA_7)); refine blk_far ?_ NB196_201.out _; (with_reducible repeat (first | apply bN_7 | apply bD_7 | apply bA_7)); refine blk_far ?_ NB196_201.out _; (with_reducible repeat (first | apply bN_7 | apply bD_7 | apply bA_7)); exact BK196.out⟩, ⟨by (with_reducible repeat (first | apply bN_7 | apply bD_7 | apply bA_7)); refine blk_far ?_ NB197_201.out _; (with_reducible repeat (first | apply bN_7 | apply bD_7 | apply bA_7)); refine blk_far ?_ NB197_201.out _; (with_reducible repeat (first | apply bN_7 | apply bD_7 | apply bA_7)); exact BK197.out⟩, ⟨by (with_reducible repeat (first | apply bN_7 | apply bD_7 | apply bA_7)); refine blk_far ?_ NB198_201.out _; (with_reducible repeat (first | apply bN_7 | apply bD_7 | apply bA_7)); refine blk_far ?_ NB198_201.out _; (with_reducible repeat (first | apply bN_7 | apply bD_7 | apply bA_7)); exact BK198.out⟩, ⟨by (with_reducible repeat (first | apply bN_7 | apply bD_7 | apply bA_7)); refine blk_put (cs := #[.int .u64 t206, .int .u64 x202001_1]) ?_ 1 _ rfl; (with_reducible repeat (first | apply bN_7 | apply bD_7 | apply bA_7)); refine blk_put (cs := #[.int .u64 x202000_1, .int .u64 x202001_1]) ?_ 0 _ rfl; (with_reducible repeat (first | apply bN_7 | apply bD_7 | apply bA_7)); exact BK201.out⟩, ⟨by repeat (first | (with_reducible first | exact HB.out | apply lA_7 | apply lN_7 | apply lD_7 | refine lS_7 ?_ GE196.out | refine lS_7 ?_ GE197.out | refine lS_7 ?_ GE198.out | refine lS_7 ?_ GE201.out) | exact HB.out)⟩⟩
          · rw [if_neg c16] at H
            have c16b0 : ((Int.tmod (ji15) 2) == 1) = false := beq_eq_false_iff_ne.mpr c16
            have c16b1 : ((Int.tmod (ji15) 2) != 1) = true := bne_iff_ne.mpr c16
            have c31b0 := eq_true (of_decide_eq_true (by first | (with_reducible assumption) | assumption) : 0 ≤ x6_1)
            obtain ⟨ji32, hji32⟩ : ∃ j_ : Int, (shr .u64 a0_1 x6_1) = j_ := ⟨_, rfl⟩
            replace H : (if (Int.tmod (ji32) 2) = 1 then ((lockgateref03_Add.f x202000_1 x202001_1 0 (shl .u64 (Go.bits .or .u64 a1_0 a1_1) x6_1)).bind fun bt208 => (lockgateref03_Mul.l0 k1 (IntKind.u64.wrap (x6_1 + 1)) a0_0 a0_1 a1_0 a1_1 bt208.1 bt208.2)) else (lockgateref03_Mul.l0 k1 (IntKind.u64.wrap (x6_1 + 1)) a0_0 a0_1 a1_0 a1_1 x202000_1 x202001_1)) = some (r1, r2) := by first | (rw [hji32] at H; exact H) | (simp only [hji32] at H ⊢; exact H)
            have hji32_ : (a0_1 / 2 ^ min x6_1.toNat 64) = ji32 := hji32
            have hji32z : x6_1 ≤ 64 → (a0_1 / 2 ^ x6_1.toNat) = ji32 := shr_small hji32
            by_cases c33 : (Int.tmod (ji32) 2) = 1
            · rw [if_pos c33] at H
              have c33b0 : ((Int.tmod (ji32) 2) == 1) = true := beq_iff_eq.mpr c33
              have c33b1 : ((Int.tmod (ji32) 2) != 1) = false := bne_eq_false_iff_eq.mpr c33
              clear c33
              have c34b0 := eq_true (of_decide_eq_true (by first | (with_reducible assumption) | assumption) : 0 ≤ x6_1)
              obtain ⟨ji35, hji35⟩ : ∃ j_ : Int, (shl .u64 (Go.bits .or .u64 a1_0 a1_1) x6_1) = j_ := ⟨_, rfl⟩
              replace H : ((lockgateref03_Add.f x202000_1 x202001_1 0 (ji35)).bind fun bt208 => (lockgateref03_Mul.l0 k1 (IntKind.u64.wrap (x6_1 + 1)) a0_0 a0_1 a1_0 a1_1 bt208.1 bt208.2)) = some (r1, r2) := by first | (rw [hji35] at H; exact H) | (simp only [hji35] at H ⊢; exact H)
              have hji35_ : (IntKind.u64.wrap ((Go.bits .or .u64 a1_0 a1_1) * 2 ^ min x6_1.toNat 64)) = ji35 := hji35
              have hji35z : x6_1 ≤ 64 → (IntKind.u64.wrap ((Go.bits .or .u64 a1_0 a1_1) * 2 ^ x6_1.toNat)) = ji35 := shl_small hji35
              replace H := Option.bind_eq_some_iff.mp H
              obtain ⟨⟨t208, t209⟩, A360, H⟩ := H
              replace H : (lockgateref03_Mul.l0 k1 (IntKind.u64.wrap (x6_1 + 1)) a0_0 a0_1 a1_0 a1_1 t208 t209) = some (r1, r2) := H
              have A36 := Aside0.mk A360
              clear A360
              have H' := Aside0.mk H
              clear H
              have hnb37 := NB196_197.out
              have hnc37 := NB197_196.out
              have hnb38 := NB196_198.out
              have hnc38 := NB198_196.out
              have hnb39 := NB196_201.out
              have hnc39 := NB201_196.out
              have hcz40_0 : wr.cell? ⟨gb196, 0, none⟩ = some (.int .u64 a0_0) := (blk_cell BK196.out 0).trans rfl
              have hcz40_1 : wr.cell? ⟨gb196, 1, none⟩ = some (.int .u64 a0_1) := (blk_cell BK196.out 1).trans rfl
              have hfz40_0 := blk_frozen BK196.out 0
              have hfz40_1 := blk_frozen BK196.out 1
              have hnb41 := NB201_197.out
              have hnc41 := NB197_201.out
              have hnb42 := NB201_198.out
              have hnc42 := NB198_201.out
              have hcz43_0 : wr.cell? ⟨gb201, 0, none⟩ = some (.int .u64 x202000_1) := (blk_cell BK201.out 0).trans rfl
              have hcz43_1 : wr.cell? ⟨gb201, 1, none⟩ = some (.int .u64 x202001_1) := (blk_cell BK201.out 1).trans rfl
              have hfz43_0 := blk_frozen BK201.out 0
              have hfz43_1 := blk_frozen BK201.out 1
              have hnb44 := NB197_198.out
              have hnc44 := NB198_197.out
              have hcz45_0 : wr.cell? ⟨gb197, 0, none⟩ = some (.int .u64 a1_0) := (blk_cell BK197.out 0).trans rfl
              have hcz45_1 : wr.cell? ⟨gb197, 1, none⟩ = some (.int .u64 a1_1) := (blk_cell BK197.out 1).trans rfl
              have hfz45_0 := blk_frozen BK197.out 0
              have hfz45_1 := blk_frozen BK197.out 1
              go_wp2_with (first | ((with_reducible refine gate_callee (f := 18) rfl ?_); refine goesL_ (some 40) rfl rfl Try.func18 (by kernel_rfl) rfl #[.agg #[.int .u64 x202000_1, .int .u64 x202001_1], .agg #[.int .u64 0, .int .u64 ji35]] rfl (by (try simp only [List.map_toArray, List.map_cons, List.map_nil]); first | done | (simp only [hji35]; rfl) | rfl | (simp only [List.length_drop, List.length_take]; rfl)) ?_; (with_reducible refine (lockgateref03_Add.calls x202000_1 x202001_1 0 ji35 t208 t209 _ A36.out).mono ?_); rintro e w46 ⟨rfl, hb⟩; refine ⟨_, rfl, ?_⟩; have n0_ := Aside0.mk (blk_below (g := gb196) (o := .cells #[.int .u64 a0_0, .int .u64 a0_1] 24 (0, 0)) (by (with_reducible repeat (first | apply bN_7 | apply bD_7 | apply bA_7)); exact BK196.out) hb); have n1_ := Aside0.mk (blk_below (g := gb197) (o := .cells #[.int .u64 a1_0, .int .u64 a1_1] 24 (0, 0)) (by (with_reducible repeat (first | apply bN_7 | apply bD_7 | apply bA_7)); exact BK197.out) hb); have n2_ := Aside0.mk (blk_below (g := gb198) (o := .cells #[.int .u64 0, .int .u64 0] 24 (0, 0)) (by (with_reducible repeat (first | apply bN_7 | apply bD_7 | apply bA_7)); exact BK198.out) hb); have n3_ := Aside0.mk (blk_below (g := gb201) (o := .cells #[.int .u64 x202000_1, .int .u64 x202001_1] 24 (0, 0)) (by (with_reducible repeat (first | apply bN_7 | apply bD_7 | apply bA_7)); exact BK201.out) hb); have n4_ := Aside0.mk (below_step (by repeat (first | (with_reducible first | exact HB.out | apply lA_7 | apply lN_7 | apply lD_7 | refine lS_7 ?_ GE196.out | refine lS_7 ?_ GE197.out | refine lS_7 ?_ GE198.out | refine lS_7 ?_ GE201.out) | exact HB.out)) hb); clear BK196; clear BK197; clear BK198; clear BK201; clear HB; have BK196 := n0_; have BK197 := n1_; have BK198 := n2_; have BK201 := n3_; have HB := n4_; clear n0_ n1_ n2_ n3_ n4_; (try clear hb); (try clear hb2); (try clear hk); (try clear hi); have hcz47_0 : w46.cell? ⟨gb201, 0, none⟩ = some (.int .u64 x202000_1) := (blk_cell BK201.out 0).trans rfl; have hcz47_1 : w46.cell? ⟨gb201, 1, none⟩ = some (.int .u64 x202001_1) := (blk_cell BK201.out 1).trans rfl; have hfz47_0 := blk_frozen BK201.out 0; have hfz47_1 := blk_frozen BK201.out 1))
              go_roundg k1
              case measure => have := HK1.out; omega
              case rel => exact ⟨(IntKind.u64.wrap (x6_1 + 1)), (t208), (t209), (by first | rfl | (simp; done) | (simp [*]; done)), H', ⟨by have := HK1.out; omega⟩, ⟨by (with_reducible repeat (first | apply bN_7 | apply bD_7 | apply bA_7)); refine blk_far ?_ NB196_201.out _; (with_reducible repeat (first | apply bN_7 | apply bD_7 | apply bA_7)); refine blk_far ?_ NB196_201.out _; (with_reducible repeat (first | apply bN_7 | apply bD_7 | apply bA_7)); exact BK196.out⟩, ⟨by (with_reducible repeat (first | apply bN_7 | apply bD_7 | apply bA_7)); refine blk_far ?_ NB197_201.out _; (with_reducible repeat (first | apply bN_7 | apply bD_7 | apply bA_7)); refine blk_far ?_ NB197_201.out _; (with_reducible repeat (first | apply bN_7 | apply bD_7 | apply bA_7)); exact BK197.out⟩, ⟨by (with_reducible repeat (first | apply bN_7 | apply bD_7 | apply bA_7)); refine blk_far ?_ NB198_201.out _; (with_reducible repeat (first | apply bN_7 | apply bD_7 | apply bA_7)); refine blk_far ?_ NB198_201.out _; (with_reducible repeat (first | apply bN_7 | apply bD_7 | apply bA_7)); exact BK198.out⟩, ⟨by (with_reducible repeat (first | apply bN_7 | apply bD_7 | apply bA_7)); refine blk_put (cs := #[.int .u64 t208, .int .u64 x202001_1]) ?_ 1 _ rfl; (with_reducible repeat (first | apply bN_7 | apply bD_7 | apply bA_7)); refine blk_put (cs := #[.int .u64 x202000_1, .int .u64 x202001_1]) ?_ 0 _ rfl; (with_reducible repeat (first | apply bN_7 | apply bD_7 | apply bA_7)); exact BK201.out⟩, ⟨by repeat (first | (with_reducible first | exact HB.out | apply lA_7 | apply lN_7 | apply lD_7 | refine lS_7 ?_ GE196.out | refine lS_7 ?_ GE197.out | refine lS_7 ?_ GE198.out | refine lS_7 ?_ GE201.out) | exact HB.out)⟩⟩
            · rw [if_neg c33] at H
              have c33b0 : ((Int.tmod (ji32) 2) == 1) = false := beq_eq_false_iff_ne.mpr c33
              have c33b1 : ((Int.tmod (ji32) 2) != 1) = true := bne_iff_ne.mpr c33
              have H' := Aside0.mk H
              clear H
              have hnb48 := NB196_197.out
              have hnc48 := NB197_196.out
              have hnb49 := NB196_198.out
              have hnc49 := NB198_196.out
              have hnb50 := NB196_201.out
              have hnc50 := NB201_196.out
              have hcz51_0 : wr.cell? ⟨gb196, 0, none⟩ = some (.int .u64 a0_0) := (blk_cell BK196.out 0).trans rfl
              have hcz51_1 : wr.cell? ⟨gb196, 1, none⟩ = some (.int .u64 a0_1) := (blk_cell BK196.out 1).trans rfl
              have hfz51_0 := blk_frozen BK196.out 0
              have hfz51_1 := blk_frozen BK196.out 1
              go_wp2
              go_roundg k1
              case measure => have := HK1.out; omega
              case rel => exact ⟨(IntKind.u64.wrap (x6_1 + 1)), (x202000_1), (x202001_1), (by first | rfl | (simp; done) | (simp [*]; done)), H', ⟨by have := HK1.out; omega⟩, ⟨by (with_reducible repeat (first | apply bN_7 | apply bD_7 | apply bA_7)); exact BK196.out⟩, ⟨by (with_reducible repeat (first | apply bN_7 | apply bD_7 | apply bA_7)); exact BK197.out⟩, ⟨by (with_reducible repeat (first | apply bN_7 | apply bD_7 | apply bA_7)); exact BK198.out⟩, ⟨by (with_reducible repeat (first | apply bN_7 | apply bD_7 | apply bA_7)); exact BK201.out⟩, ⟨by repeat (first | (with_reducible first | exact HB.out | apply lA_7 | apply lN_7 | apply lD_7 | refine lS_7 ?_ GE196.out | refine lS_7 ?_ GE197.out | refine lS_7 ?_ GE198.out | refine lS_7 ?_ GE201.out) | exact HB.out)⟩⟩
        · rw [if_neg c14] at H
          exact absurd H (by simp)
      · rw [if_neg c13] at H
        have c13b0 : decide (x6_1 < 64) = false := decide_eq_false c13
        clear c13
        replace H := Option.bind_eq_some_iff.mp H
        obtain ⟨⟨t202, t203⟩, A520, H⟩ := H
        replace H : ((lockgateref03_Add.f t202 t203 x202000_1 x202001_1).bind fun bt204 => (some (bt204.1, bt204.2))) = some (r1, r2) := H
        have A52 := Aside0.mk A520
        clear A520
        replace H := Option.bind_eq_some_iff.mp H
        obtain ⟨⟨t204, t205⟩, A530, H⟩ := H
        replace H : (some (t204, t205)) = some (r1, r2) := H
        have A53 := Aside0.mk A530
        clear A530
        simp only [Option.some.injEq, Prod.mk.injEq] at H
        obtain ⟨rfl, rfl⟩ := H
        try go_wp2
        have n0_ := Aside0.mk (blk_drew BK196.out)
        have n1_ := Aside0.mk (blk_drew BK197.out)
        have n2_ := Aside0.mk (blk_drew BK198.out)
        have n3_ := Aside0.mk (blk_drew BK201.out)
        have n4_ := Aside0.mk (below_drew1 HB.out)
        clear BK196
        clear BK197
        clear BK198
        clear BK201
        clear HB
        have BK196 := n0_
        have BK197 := n1_
        have BK198 := n2_
        have BK201 := n3_
        have HB := n4_
        clear n0_ n1_ n2_ n3_ n4_
        refine start_ (n := 9) (S := fun w' => w'.cell? ⟨gb196, 0, none⟩ = some (.int .u64 a0_0) ∧ w'.cell? ⟨gb196, 1, none⟩ = some (.int .u64 a0_1) ∧ w'.cell? ⟨gb197, 0, none⟩ = some (.int .u64 a1_0) ∧ w'.cell? ⟨gb197, 1, none⟩ = some (.int .u64 a1_1) ∧ w'.cell? ⟨gb201, 0, none⟩ = some (.int .u64 x202000_1) ∧ w'.cell? ⟨gb201, 1, none⟩ = some (.int .u64 x202001_1)) (ds := []) #[false, false, false, false, false, false, false, false, false] (by kernel_rfl) rfl rfl ⟨(blk_cell BK196.out 0).trans rfl, (blk_cell BK196.out 1).trans rfl, (blk_cell BK197.out 0).trans rfl, (blk_cell BK197.out 1).trans rfl, (blk_cell BK201.out 0).trans rfl, (blk_cell BK201.out 1).trans rfl⟩ (fun hHeld => ?_); refine with_tabW lockgateref03_Mul.tab9 lockgateref03_Mul.bits9 (fun HT_ HW_ => ?_)
        generalize wr.drew = w54 at BK196 BK197 BK198 BK201 HB hHeld ⊢
        refine pure_ (i := 0) (N := some 41) (v := ?_) (a' := ?_) #[true, false, false, false, false, false, false, false, false] rfl rfl (any_of HT_.out (by kernel_rfl)) (fun _ _ _ h => h) (Or.inl ⟨by rfl, ?_⟩) ?_ ?_
        rotate_left
        · intro w'
          go_simp
          with_reducible rfl
        rotate_left
        · simp only [Act.put, List.setIfInBounds_toArray, List.set_cons_zero, List.set_cons_succ, i64_w, i32_w]
          rfl
        refine pure_ (i := 2) (N := some 43) (v := ?_) (a' := ?_) #[true, false, true, false, false, false, false, false, false] rfl rfl (any_of HT_.out (by kernel_rfl)) (fun _ _ _ h => h) (Or.inl ⟨by rfl, ?_⟩) ?_ ?_
        rotate_left
        · intro w'
          go_simp
          with_reducible rfl
        rotate_left
        · simp only [Act.put, List.setIfInBounds_toArray, List.set_cons_zero, List.set_cons_succ, i64_w, i32_w]
          rfl
        refine take_ (i := 1) (N := some 42) (v := ?_) (a' := ?_) #[true, true, true, false, false, false, false, false, false] rfl rfl (take_ofW HT_.out HW_.out (by kernel_rfl)) (fun _ _ _ h => h) (Or.inl ⟨by rfl, ?_⟩) hHeld ?_ ?_
        rotate_left
        · rintro w' ⟨s0, s1, s2, s3, s4, s5⟩
          go_simp
          with_reducible rfl
        rotate_left
        · simp only [Act.put, List.setIfInBounds_toArray, List.set_cons_zero, List.set_cons_succ, i64_w, i32_w]
          rfl
        refine take_ (i := 3) (N := some 44) (v := ?_) (a' := ?_) #[true, true, true, true, false, false, false, false, false] rfl rfl (take_ofW HT_.out HW_.out (by kernel_rfl)) (fun _ _ _ h => h) (Or.inl ⟨by rfl, ?_⟩) hHeld ?_ ?_
        rotate_left
        · rintro w' ⟨s0, s1, s2, s3, s4, s5⟩
          go_simp
          with_reducible rfl
        rotate_left
        · simp only [Act.put, List.setIfInBounds_toArray, List.set_cons_zero, List.set_cons_succ, i64_w, i32_w]
          rfl
        refine pure_ (i := 4) (N := some 45) (v := ?_) (a' := ?_) #[true, true, true, true, true, false, false, false, false] rfl rfl (any_of HT_.out (by kernel_rfl)) (fun _ _ _ h => h) (Or.inl ⟨by rfl, ?_⟩) ?_ ?_
        rotate_left
        · intro w'
          go_simp
          with_reducible rfl
        rotate_left
        · simp only [Act.put, List.setIfInBounds_toArray, List.set_cons_zero, List.set_cons_succ, i64_w, i32_w]
          rfl
        refine take_ (i := 6) (N := some 47) (v := ?_) (a' := ?_) #[true, true, true, true, true, false, true, false, false] rfl rfl (take_ofW HT_.out HW_.out (by kernel_rfl)) (fun _ _ _ h => h) (Or.inl ⟨by rfl, ?_⟩) hHeld ?_ ?_
        rotate_left
        · rintro w' ⟨s0, s1, s2, s3, s4, s5⟩
          go_simp
          with_reducible rfl
        rotate_left
        · simp only [Act.put, List.setIfInBounds_toArray, List.set_cons_zero, List.set_cons_succ, i64_w, i32_w]
          rfl
        refine one_ (i := 5) (N := some 46) #[true, true, true, true, true, true, true, false, false] rfl rfl (one_of HT_.out (by kernel_rfl)) (by decide) (fun K hK => ?_)
        refine goes_ Try.func26 (by kernel_rfl) rfl #[.int .u64 (IntKind.u64.wrap (a0_0 * a1_0))] (by rfl) rfl rfl (by (try simp only [List.map_toArray, List.map_cons, List.map_nil]); first | done | rfl) ?_
        with_reducible refine (lockgateref03_Of.calls (IntKind.u64.wrap (a0_0 * a1_0)) t202 t203 _ A52.out).mono ?_
        rintro e w55 ⟨rfl, hb⟩
        refine ⟨_, rfl, ?_⟩
        have n0_ := Aside0.mk (blk_below (g := gb196) (o := .cells #[.int .u64 a0_0, .int .u64 a0_1] 24 (0, 0)) (by (with_reducible repeat (first | apply bN_7 | apply bD_7 | apply bA_7)); exact BK196.out) hb)
        have n1_ := Aside0.mk (blk_below (g := gb197) (o := .cells #[.int .u64 a1_0, .int .u64 a1_1] 24 (0, 0)) (by (with_reducible repeat (first | apply bN_7 | apply bD_7 | apply bA_7)); exact BK197.out) hb)
        have n2_ := Aside0.mk (blk_below (g := gb198) (o := .cells #[.int .u64 0, .int .u64 0] 24 (0, 0)) (by (with_reducible repeat (first | apply bN_7 | apply bD_7 | apply bA_7)); exact BK198.out) hb)
        have n3_ := Aside0.mk (blk_below (g := gb201) (o := .cells #[.int .u64 x202000_1, .int .u64 x202001_1] 24 (0, 0)) (by (with_reducible repeat (first | apply bN_7 | apply bD_7 | apply bA_7)); exact BK201.out) hb)
        have n4_ := Aside0.mk (below_step (by repeat (first | (with_reducible first | exact HB.out | apply lA_7 | apply lN_7 | apply lD_7 | refine lS_7 ?_ GE196.out | refine lS_7 ?_ GE197.out | refine lS_7 ?_ GE198.out | refine lS_7 ?_ GE201.out) | exact HB.out)) hb)
        clear BK196
        clear BK197
        clear BK198
        clear BK201
        clear HB
        have BK196 := n0_
        have BK197 := n1_
        have BK198 := n2_
        have BK201 := n3_
        have HB := n4_
        clear n0_ n1_ n2_ n3_ n4_
        (try clear hb)
        (try clear hb2)
        (try clear hk)
        (try clear hi)
        refine hK.out _ _ ⟨(blk_cell BK196.out 0).trans rfl, (blk_cell BK196.out 1).trans rfl, (blk_cell BK197.out 0).trans rfl, (blk_cell BK197.out 1).trans rfl, (blk_cell BK201.out 0).trans rfl, (blk_cell BK201.out 1).trans rfl⟩ (fun hHeld => ?_)
        clear hK K
        refine norm_ (a' := ?_) ?_ ?_
        rotate_left
        · show Act.put _ (some 46) _ = _
          simp only [Act.put, List.setIfInBounds_toArray, List.set_cons_zero, List.set_cons_succ, i64_w, i32_w]
          rfl
        refine one_ (i := 7) (N := some 48) #[true, true, true, true, true, true, true, true, false] rfl rfl (one_of HT_.out (by kernel_rfl)) (by decide) (fun K hK => ?_)
        refine goes_ Try.func18 (by kernel_rfl) rfl #[.agg #[.int .u64 t202, .int .u64 t203], .agg #[.int .u64 x202000_1, .int .u64 x202001_1]] (by rfl) rfl rfl (by (try simp only [List.map_toArray, List.map_cons, List.map_nil]); first | done | rfl) ?_
        with_reducible refine (lockgateref03_Add.calls t202 t203 x202000_1 x202001_1 t204 t205 _ A53.out).mono ?_
        rintro e w56 ⟨rfl, hb⟩
        refine ⟨_, rfl, ?_⟩
        have n0_ := Aside0.mk (blk_below (g := gb196) (o := .cells #[.int .u64 a0_0, .int .u64 a0_1] 24 (0, 0)) (by (with_reducible repeat (first | apply bN_7 | apply bD_7 | apply bA_7)); exact BK196.out) hb)
        have n1_ := Aside0.mk (blk_below (g := gb197) (o := .cells #[.int .u64 a1_0, .int .u64 a1_1] 24 (0, 0)) (by (with_reducible repeat (first | apply bN_7 | apply bD_7 | apply bA_7)); exact BK197.out) hb)
        have n2_ := Aside0.mk (blk_below (g := gb198) (o := .cells #[.int .u64 0, .int .u64 0] 24 (0, 0)) (by (with_reducible repeat (first | apply bN_7 | apply bD_7 | apply bA_7)); exact BK198.out) hb)
        have n3_ := Aside0.mk (blk_below (g := gb201) (o := .cells #[.int .u64 x202000_1, .int .u64 x202001_1] 24 (0, 0)) (by (with_reducible repeat (first | apply bN_7 | apply bD_7 | apply bA_7)); exact BK201.out) hb)
        have n4_ := Aside0.mk (below_step (by repeat (first | (with_reducible first | exact HB.out | apply lA_7 | apply lN_7 | apply lD_7 | refine lS_7 ?_ GE196.out | refine lS_7 ?_ GE197.out | refine lS_7 ?_ GE198.out | refine lS_7 ?_ GE201.out) | exact HB.out)) hb)
        clear BK196
        clear BK197
        clear BK198
        clear BK201
        clear HB
        have BK196 := n0_
        have BK197 := n1_
        have BK198 := n2_
        have BK201 := n3_
        have HB := n4_
        clear n0_ n1_ n2_ n3_ n4_
        (try clear hb)
        (try clear hb2)
        (try clear hk)
        (try clear hi)
        refine hK.out _ _ ⟨(blk_cell BK196.out 0).trans rfl, (blk_cell BK196.out 1).trans rfl, (blk_cell BK197.out 0).trans rfl, (blk_cell BK197.out 1).trans rfl, (blk_cell BK201.out 0).trans rfl, (blk_cell BK201.out 1).trans rfl⟩ (fun hHeld => ?_)
        clear hK K
        refine norm_ (a' := ?_) ?_ ?_
        rotate_left
        · show Act.put _ (some 48) _ = _
          simp only [Act.put, List.setIfInBounds_toArray, List.set_cons_zero, List.set_cons_succ, i64_w, i32_w]
          rfl
        refine one_ (i := 8) (N := none) #[true, true, true, true, true, true, true, true, true] rfl rfl (one_of HT_.out (by kernel_rfl)) (by decide) (fun K hK => ?_)
        have hs57 : w56.cell? ⟨gb198, 0, none⟩ = some (.int .u64 0) := (blk_cell BK198.out 0).trans rfl
        have hfs57 := blk_frozen BK198.out 0
        have hns57_0 := NB196_198.out
        have hns57_1 := NB197_198.out
        have hns57_3 := NB201_198.out
        have hms57_0 := NB198_196.out
        have hms57_1 := NB198_197.out
        have hms57_3 := NB198_201.out
        have hs58 : w56.cell? ⟨gb198, 1, none⟩ = some (.int .u64 0) := (blk_cell BK198.out 1).trans rfl
        have hfs58 := blk_frozen BK198.out 1
        have hns58_0 := NB196_198.out
        have hns58_1 := NB197_198.out
        have hns58_3 := NB201_198.out
        have hms58_0 := NB198_196.out
        have hms58_1 := NB198_197.out
        have hms58_3 := NB198_201.out
        refine skip_ (w1 := ?_) (by rfl) rfl ?_ ?_
        rotate_left
        · go_simp
          rfl
        refine hK.out _ _ ⟨((cell_far (p := ⟨gb198, _, none⟩) NB196_198.out _).trans (((cell_far (p := ⟨gb198, _, none⟩) NB196_198.out _).trans (hHeld.1)))), ((cell_far (p := ⟨gb198, _, none⟩) NB196_198.out _).trans (((cell_far (p := ⟨gb198, _, none⟩) NB196_198.out _).trans (hHeld.2.1)))), ((cell_far (p := ⟨gb198, _, none⟩) NB197_198.out _).trans (((cell_far (p := ⟨gb198, _, none⟩) NB197_198.out _).trans (hHeld.2.2.1)))), ((cell_far (p := ⟨gb198, _, none⟩) NB197_198.out _).trans (((cell_far (p := ⟨gb198, _, none⟩) NB197_198.out _).trans (hHeld.2.2.2.1)))), ((cell_far (p := ⟨gb198, _, none⟩) NB201_198.out _).trans (((cell_far (p := ⟨gb198, _, none⟩) NB201_198.out _).trans (hHeld.2.2.2.2.1)))), ((cell_far (p := ⟨gb198, _, none⟩) NB201_198.out _).trans (((cell_far (p := ⟨gb198, _, none⟩) NB201_198.out _).trans (hHeld.2.2.2.2.2))))⟩ (fun hHeld => ?_)
        clear hK K
        refine done_ (done_of HT_.out (by kernel_rfl)) ?_
        try go_wp2
        refine bodyPost_ret (results_cell_row rfl _ _ gb198 24 #[.int .u64 t204, .int .u64 t205] (0, 0) _ rfl (by (with_reducible repeat (first | apply bN_7 | apply bD_7 | apply bA_7)); refine blk_put (cs := #[.int .u64 t204, .int .u64 0]) ?_ 1 _ rfl; (with_reducible repeat (first | apply bN_7 | apply bD_7 | apply bA_7)); refine blk_put (cs := #[.int .u64 0, .int .u64 0]) ?_ 0 _ rfl; (with_reducible repeat (first | apply bN_7 | apply bD_7 | apply bA_7)); exact BK198.out) Try.underlying24 rfl (by kernel_rfl)) rfl ?_
        exact ⟨by first | rfl | (simp [errW_none, errW_some] <;> rfl) | (simp [*, errW_none, errW_some] <;> rfl), by repeat (first | (with_reducible first | exact HB.out | apply lA_7 | apply lN_7 | apply lD_7 | refine lS_7 ?_ GE196.out | refine lS_7 ?_ GE197.out | refine lS_7 ?_ GE198.out | refine lS_7 ?_ GE201.out) | exact HB.out)⟩

end Go.Proofs.Ytkmnogcahpbdjaa.PA
