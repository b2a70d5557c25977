-- PRINTED by print.py (a twelfth state) out of the translation. Not trusted: Lean checks it.
import Derived.Test.YtkmnogcahpbdjaaPA0
import Derived.Test.YtkmnogcahpbdjaaPA1
import Derived.Test.YtkmnogcahpbdjaaPA2
import Derived.Test.YtkmnogcahpbdjaaPA4
import Derived.Test.YtkmnogcahpbdjaaPA10
import Derived.Test.YtkmnogcahpbdjaaPA11
import Derived.Test.YtkmnogcahpbdjaaPA12
import Derived.Test.YtkmnogcahpbdjaaPA13
namespace Go.Proofs.Ytkmnogcahpbdjaa.PA
open Go.RowKit Go.Proofs.YtkmnogcahpbdjaaW.PrintWords Go.Proofs.YtkmnogcahpbdjaaW.PrintLast Go.Proofs.YtkmnogcahpbdjaaW.PrintMore
attribute [local go_sem] max2_int min2_int max_two min_two max_three min_three max_four min_four   -- for this text's walks alone
set_option linter.defProp false
def bN_19 := @blk_drewN
def bD_19 := @blk_drew
def bA_19 := @blk_alloc
def lA_19 := @below_alloc
def lN_19 := @pw_below_drewN
def lD_19 := @below_drew1
def lS_19 := @below_set
set_option linter.unusedVariables false
set_option linter.unusedSimpArgs false

attribute [local go_sem high] eqA24
/-! ### lockgatelaw03_TnumBits: function 8 -/
def lockgatelaw03_TnumBits.j0 : Nat → Int → Int → Bool → Int → Int → Option (Bool)
  | 0, _, _, _, _, _ => none
  | k + 1, x2, x3, x37, x423000, x423001 => if x37 = true then (some false) else ((tnum_Lsh.f x423000 x423001 x2).bind fun bt440 => ((lockgateref03_Lsh.f x423000 x423001 x2).bind fun bt442 => (if (bt440.1 == bt442.1 && (bt440.2 == bt442.2)) = true then ((tnum_Rsh.f x423000 x423001 x2).bind fun bt444 => ((lockgateref03_Rsh.f x423000 x423001 x2).bind fun bt446 => (if (bt444.1 == bt446.1 && (bt444.2 == bt446.2)) = true then ((tnum_Arsh.f x423000 x423001 x2 x3).bind fun bt448 => ((lockgateref03_Arsh.f k x423000 x423001 x2 x3).bind fun bt450 => (if (bt448.1 == bt450.1 && (bt448.2 == bt450.2)) = true then ((tnum_Cut.f x423000 x423001 x3).bind fun bt452 => ((lockgateref03_Cut.f x423000 x423001 x3).bind fun bt454 => (if (bt452.1 == bt454.1 && (bt452.2 == bt454.2)) = true then ((lockgatelaw03_known.f k).bind fun t456 => (some t456)) else (some false)))) else (some false)))) else (some false)))) else (some false))))
def lockgatelaw03_TnumBits.f (k : Nat) (a0_0 : Int) (a0_1 : Int) (a1_0 : Int) (a1_1 : Int) (a2 : Int) (a3 : Int) : Option (Bool) := (lockgatelaw03_May.f a0_0 a0_1).bind fun bt424 => ((lockgatelaw03_May.f a1_0 a1_1).bind fun bt426 => ((tnum_And.f bt424.1 bt424.2 bt426.1 bt426.2).bind fun bt428 => ((lockgateref03_And.f bt424.1 bt424.2 bt426.1 bt426.2).bind fun bt430 => (if (!(bt428.1 == bt430.1) || (!(bt428.2 == bt430.2))) = true then (lockgatelaw03_TnumBits.j0 k a2 a3 true bt424.1 bt424.2) else ((tnum_Or.f bt424.1 bt424.2 bt426.1 bt426.2).bind fun bt432 => ((lockgateref03_Or.f bt424.1 bt424.2 bt426.1 bt426.2).bind fun bt434 => (if (!(bt432.1 == bt434.1) || (!(bt432.2 == bt434.2))) = true then (lockgatelaw03_TnumBits.j0 k a2 a3 true bt424.1 bt424.2) else ((tnum_Xor.f bt424.1 bt424.2 bt426.1 bt426.2).bind fun bt436 => ((lockgateref03_Xor.f bt424.1 bt424.2 bt426.1 bt426.2).bind fun bt438 => (lockgatelaw03_TnumBits.j0 k a2 a3 (!(bt436.1 == bt438.1) || (!(bt436.2 == bt438.2))) bt424.1 bt424.2))))))))))
theorem lockgatelaw03_TnumBits.mono_l : ∀ k, (∀ y0 y1 y2 y3 y4, LeO (lockgatelaw03_TnumBits.j0 k y0 y1 y2 y3 y4) (lockgatelaw03_TnumBits.j0 (k + 1) y0 y1 y2 y3 y4))
  | 0 => fun _ _ _ _ _ r h => by simp [lockgatelaw03_TnumBits.j0] at h
  | k + 1 => by
    have ih0 := lockgatelaw03_TnumBits.mono_l k
    · intro y0 y1 y2 y3 y4
      unfold lockgatelaw03_TnumBits.j0
      repeat' first
      | (with_reducible exact ih0 _ _ _ _ _)
      | (with_reducible exact lockgatelaw03_known.mono _)
      | (with_reducible exact lockgateref03_Arsh.mono _ _ _ _ _)
      | (with_reducible exact LeO.refl _)
      | (with_reducible exact LeO.none _)
      | (with_reducible refine LeO.ite ?_ ?_)
      | (with_reducible refine LeO.bind ?_ (fun _ => ?_))
      | exact ih0 _ _ _ _ _
      | exact lockgatelaw03_known.mono _
      | exact lockgateref03_Arsh.mono _ _ _ _ _
      | exact LeO.none _
      | refine LeO.ite ?_ ?_
      | refine LeO.bind ?_ (fun _ => ?_)
theorem lockgatelaw03_TnumBits.mono : ∀ a0 a1 a2 a3 a4 a5 k, LeO (lockgatelaw03_TnumBits.f k a0 a1 a2 a3 a4 a5) (lockgatelaw03_TnumBits.f (k + 1) a0 a1 a2 a3 a4 a5) := by
  intro a0 a1 a2 a3 a4 a5 k
  have ih0 := lockgatelaw03_TnumBits.mono_l k
  unfold lockgatelaw03_TnumBits.f
  repeat' first
      | (with_reducible exact ih0 _ _ _ _ _)
      | (with_reducible exact lockgatelaw03_known.mono _)
      | (with_reducible exact lockgateref03_Arsh.mono _ _ _ _ _)
      | (with_reducible exact LeO.refl _)
      | (with_reducible exact LeO.none _)
      | (with_reducible refine LeO.ite ?_ ?_)
      | (with_reducible refine LeO.bind ?_ (fun _ => ?_))
      | exact ih0 _ _ _ _ _
      | exact lockgatelaw03_known.mono _
      | exact lockgateref03_Arsh.mono _ _ _ _ _
      | exact LeO.none _
      | refine LeO.ite ?_ ?_
      | refine LeO.bind ?_ (fun _ => ?_)
def lockgatelaw03_TnumBits.T3 : Bool × List (List Nat × List Nat) := (true, [([], []), ([], []), ([0, 1], [0, 1]), ([], []), ([], []), ([3, 4, 2], [3, 4]), ([2, 5], [2, 5]), ([6, 5], [6]), ([7], [7]), ([7], [7]), ([8, 9, 7, 7], [7, 8, 9]), ([7], [7]), ([7], [7]), ([11, 12, 10, 7], [7, 11, 12]), ([10, 13, 7], [7, 10, 13]), ([7, 14], [7, 14]), ([15, 13], [15]), ([16], [16]), ([16], [16]), ([17, 18, 16, 16], [16, 17, 18]), ([16], [16]), ([16], [16]), ([20, 21, 19, 16], [16, 20, 21]), ([19, 22, 16], [16, 19, 22]), ([16, 23], [16, 23])])
def lockgatelaw03_TnumBits.B3 : List Nat := [0, 0, 3, 0, 0, 31, 63, 127, 255, 255, 1023, 255, 255, 8191, 16383, 32767, 65535, 131071, 131071, 524287, 131071, 131071, 4194303, 8388607, 16777215]
theorem lockgatelaw03_TnumBits.tab3 : rtab .any (opsOf Try.f8 3) = lockgatelaw03_TnumBits.T3 := by kernel_rfl
theorem lockgatelaw03_TnumBits.bits3 : waitsOk lockgatelaw03_TnumBits.T3.2 lockgatelaw03_TnumBits.B3 = true := by kernel_rfl
def lockgatelaw03_TnumBits.T5 : Bool × List (List Nat × List Nat) := (true, [([], []), ([], []), ([0, 1], [0, 1]), ([], []), ([], []), ([3, 4, 2], [3, 4]), ([2, 5], [2, 5]), ([6, 5], [6]), ([7], [7]), ([7], [7]), ([8, 9, 7, 7], [7, 8, 9]), ([7], [7]), ([7], [7]), ([11, 12, 10, 7], [7, 11, 12]), ([10, 13, 7], [7, 10, 13]), ([7, 14], [7, 14]), ([15, 13], [15]), ([16], [16]), ([16], [16]), ([16], [16]), ([17, 18, 19, 16, 16], [16, 17, 18, 19]), ([16], [16]), ([16], [16]), ([16], [16]), ([21, 22, 23, 20, 16], [16, 21, 22, 23]), ([20, 24, 16], [16, 20, 24]), ([16, 25], [16, 25]), ([26, 24], [26]), ([27], [27]), ([27], [27]), ([28, 29, 27, 27], [27, 28, 29]), ([27], [27]), ([27], [27]), ([31, 32, 30, 27], [27, 31, 32]), ([30, 33, 27], [27, 30, 33]), ([27, 34], [27, 34]), ([35, 33], [35]), ([36, 36], [36]), ([36, 37], [36, 37]), ([38, 37, 0, 1, 2, 3, 4, 5, 6, 7, 8, 9, 10, 11, 12, 13, 14, 15, 16, 17, 18, 19, 20, 21, 22, 23, 24, 25, 26, 27, 28, 29, 30, 31, 32, 33, 34, 35, 36, 37, 38], [38])])
def lockgatelaw03_TnumBits.B5 : List Nat := [0, 0, 3, 0, 0, 31, 63, 127, 255, 255, 1023, 255, 255, 8191, 16383, 32767, 65535, 131071, 131071, 131071, 1048575, 131071, 131071, 131071, 16777215, 33554431, 67108863, 134217727, 268435455, 268435455, 1073741823, 268435455, 268435455, 8589934591, 17179869183, 34359738367, 68719476735, 137438953471, 274877906943, 549755813887]
theorem lockgatelaw03_TnumBits.tab5 : rtab .any (opsOf Try.f8 5) = lockgatelaw03_TnumBits.T5 := by kernel_rfl
theorem lockgatelaw03_TnumBits.bits5 : waitsOk lockgatelaw03_TnumBits.T5.2 lockgatelaw03_TnumBits.B5 = true := by kernel_rfl
set_option maxHeartbeats 8000000 in
set_option maxRecDepth 100000 in
theorem lockgatelaw03_TnumBits.calls (k : Nat) (a0_0 : Int) (a0_1 : Int) (a1_0 : Int) (a1_1 : Int) (a2 : Int) (a3 : Int) (r : Bool) (w : World) (HRT : Aside0 (r = true)) (h : lockgatelaw03_TnumBits.f k a0_0 a0_1 a1_0 a1_1 a2 a3 = some r) :
    Calls Try.prog 8 #[.agg #[.int .u64 a0_0, .int .u64 a0_1], .agg #[.int .u64 a1_0, .int .u64 a1_1], .int .i64 a2, .int .i64 a3] w fun e w' => e = .returned (.bool r) ∧ Below w.heap.size w w' := by
  have hu24 := Try.underlying24
  have HB := Aside0.mk (Below.refl w.heap.size w)
  have H : ((lockgatelaw03_May.f a0_0 a0_1).bind fun bt424 => ((lockgatelaw03_May.f a1_0 a1_1).bind fun bt426 => ((tnum_And.f bt424.1 bt424.2 bt426.1 bt426.2).bind fun bt428 => ((lockgateref03_And.f bt424.1 bt424.2 bt426.1 bt426.2).bind fun bt430 => (if (!(bt428.1 == bt430.1) || (!(bt428.2 == bt430.2))) = true then (lockgatelaw03_TnumBits.j0 k a2 a3 true bt424.1 bt424.2) else ((tnum_Or.f bt424.1 bt424.2 bt426.1 bt426.2).bind fun bt432 => ((lockgateref03_Or.f bt424.1 bt424.2 bt426.1 bt426.2).bind fun bt434 => (if (!(bt432.1 == bt434.1) || (!(bt432.2 == bt434.2))) = true then (lockgatelaw03_TnumBits.j0 k a2 a3 true bt424.1 bt424.2) else ((tnum_Xor.f bt424.1 bt424.2 bt426.1 bt426.2).bind fun bt436 => ((lockgateref03_Xor.f bt424.1 bt424.2 bt426.1 bt426.2).bind fun bt438 => (lockgatelaw03_TnumBits.j0 k a2 a3 (!(bt436.1 == bt438.1) || (!(bt436.2 == bt438.2))) bt424.1 bt424.2))))))))))) = some r := h
  clear h
  replace H := Option.bind_eq_some_iff.mp H
  obtain ⟨⟨t424, t425⟩, A50, H⟩ := H
  replace H : ((lockgatelaw03_May.f a1_0 a1_1).bind fun bt426 => ((tnum_And.f t424 t425 bt426.1 bt426.2).bind fun bt428 => ((lockgateref03_And.f t424 t425 bt426.1 bt426.2).bind fun bt430 => (if (!(bt428.1 == bt430.1) || (!(bt428.2 == bt430.2))) = true then (lockgatelaw03_TnumBits.j0 k a2 a3 true t424 t425) else ((tnum_Or.f t424 t425 bt426.1 bt426.2).bind fun bt432 => ((lockgateref03_Or.f t424 t425 bt426.1 bt426.2).bind fun bt434 => (if (!(bt432.1 == bt434.1) || (!(bt432.2 == bt434.2))) = true then (lockgatelaw03_TnumBits.j0 k a2 a3 true t424 t425) else ((tnum_Xor.f t424 t425 bt426.1 bt426.2).bind fun bt436 => ((lockgateref03_Xor.f t424 t425 bt426.1 bt426.2).bind fun bt438 => (lockgatelaw03_TnumBits.j0 k a2 a3 (!(bt436.1 == bt438.1) || (!(bt436.2 == bt438.2))) t424 t425)))))))))) = some r := H
  have A5 := Aside0.mk A50
  clear A50
  replace H := Option.bind_eq_some_iff.mp H
  obtain ⟨⟨t426, t427⟩, A60, H⟩ := H
  replace H : ((tnum_And.f t424 t425 t426 t427).bind fun bt428 => ((lockgateref03_And.f t424 t425 t426 t427).bind fun bt430 => (if (!(bt428.1 == bt430.1) || (!(bt428.2 == bt430.2))) = true then (lockgatelaw03_TnumBits.j0 k a2 a3 true t424 t425) else ((tnum_Or.f t424 t425 t426 t427).bind fun bt432 => ((lockgateref03_Or.f t424 t425 t426 t427).bind fun bt434 => (if (!(bt432.1 == bt434.1) || (!(bt432.2 == bt434.2))) = true then (lockgatelaw03_TnumBits.j0 k a2 a3 true t424 t425) else ((tnum_Xor.f t424 t425 t426 t427).bind fun bt436 => ((lockgateref03_Xor.f t424 t425 t426 t427).bind fun bt438 => (lockgatelaw03_TnumBits.j0 k a2 a3 (!(bt436.1 == bt438.1) || (!(bt436.2 == bt438.2))) t424 t425))))))))) = some r := H
  have A6 := Aside0.mk A60
  clear A60
  have HC7 := Aside0.mk H
  clear H
  go_enter Try.func8, Try.ntmps8
  go_upto_region 3 with (first | ((with_reducible refine gate_dst (N := 4) rfl ?_); refine box_event ?hg (N := 4) ?hd (cs := #[.int .u64 a0_0, .int .u64 a0_1]) (t := 24) ?hr ?_; (case hd => rfl); (case hg => rfl); (case hr => first | (go_simp; done) | (go_simp; rfl)); intro gb422 hg w8 hbox hb; have n0_ := Aside0.mk (below_step (by repeat (first | (with_reducible first | exact HB.out | apply lA_19 | apply lN_19 | apply lD_19) | exact HB.out)) hb); have n1_ := Aside0.mk (hbox); have n2_ := Aside0.mk ((by rw [hg]; exact (below_size (by repeat (first | (with_reducible first | exact HB.out | apply lA_19 | apply lN_19 | apply lD_19) | exact HB.out))) : w.heap.size ≤ gb422)); have n3_ := Aside0.mk ((by rw [hg]; exact (below_size (by repeat (first | (with_reducible first | exact HB.out | apply lA_19 | apply lN_19 | apply lD_19) | exact HB.out))) : w.heap.size ≤ gb422)); clear HB; have HB := n0_; have BK422 := n1_; have GW422 := n2_; have GE422 := n3_; clear n0_ n1_ n2_ n3_; clear hb hbox hg) | ((with_reducible refine gate_dst (N := 5) rfl ?_); refine box_event ?hg (N := 5) ?hd (cs := #[.int .u64 a1_0, .int .u64 a1_1]) (t := 24) ?hr ?_; (case hd => rfl); (case hg => rfl); (case hr => first | (go_simp; done) | (go_simp; rfl)); intro gb423 hg w9 hbox hb; have n0_ := Aside0.mk (blk_below (g := gb422) (o := .cells #[.int .u64 a0_0, .int .u64 a0_1] 24 (0, 0)) (by (with_reducible repeat (first | apply bN_19 | apply bD_19 | apply bA_19)); exact BK422.out) hb); have n1_ := Aside0.mk (below_step (by repeat (first | (with_reducible first | exact HB.out | apply lA_19 | apply lN_19 | apply lD_19 | refine lS_19 ?_ GE422.out) | exact HB.out)) hb); have n2_ := Aside0.mk (hbox); have n3_ := Aside0.mk ((by rw [hg]; exact (below_size (by repeat (first | (with_reducible first | exact HB.out | apply lA_19 | apply lN_19 | apply lD_19 | refine lS_19 ?_ GE422.out) | exact HB.out))) : w.heap.size ≤ gb423)); have n4_ := Aside0.mk ((by rw [hg]; exact (below_size (by repeat (first | (with_reducible first | exact HB.out | apply lA_19 | apply lN_19 | apply lD_19 | refine lS_19 ?_ GE422.out) | exact HB.out))) : w.heap.size ≤ gb423)); have n5_ := Aside0.mk ((by rw [hg]; exact Nat.ne_of_lt (blk_lt (g := gb422) (o := .cells #[.int .u64 a0_0, .int .u64 a0_1] 24 (0, 0)) (by (with_reducible repeat (first | apply bN_19 | apply bD_19 | apply bA_19)); exact BK422.out)) : gb422 ≠ gb423)); have n6_ := Aside0.mk ((by rw [hg]; exact Nat.ne_of_gt (blk_lt (g := gb422) (o := .cells #[.int .u64 a0_0, .int .u64 a0_1] 24 (0, 0)) (by (with_reducible repeat (first | apply bN_19 | apply bD_19 | apply bA_19)); exact BK422.out)) : gb423 ≠ gb422)); clear BK422; clear HB; have BK422 := n0_; have HB := n1_; have BK423 := n2_; have GW423 := n3_; have GE423 := n4_; have NB422_423 := n5_; have NB423_422 := n6_; clear n0_ n1_ n2_ n3_ n4_ n5_ n6_; clear hb hbox hg; have hnb10 := NB422_423.out; have hnc10 := NB423_422.out; have hcz11_0 : w9.cell? ⟨gb422, 0, none⟩ = some (.int .u64 a0_0) := (blk_cell BK422.out 0).trans rfl; have hcz11_1 : w9.cell? ⟨gb422, 1, none⟩ = some (.int .u64 a0_1) := (blk_cell BK422.out 1).trans rfl; have hfz11_0 := blk_frozen BK422.out 0; have hfz11_1 := blk_frozen BK422.out 1) | ((with_reducible refine gate_callee (f := 12) rfl ?_); refine goesL_ (some 10) rfl rfl Try.func12 (by kernel_rfl) rfl #[.agg #[.int .u64 a0_0, .int .u64 a0_1]] rfl (by (try simp only [List.map_toArray, List.map_cons, List.map_nil]); first | done | rfl) ?_; (with_reducible refine (lockgatelaw03_May.calls a0_0 a0_1 t424 t425 _ A5.out).mono ?_); rintro e w12 ⟨rfl, hb⟩; refine ⟨_, rfl, ?_⟩; have n0_ := Aside0.mk (blk_below (g := gb422) (o := .cells #[.int .u64 a0_0, .int .u64 a0_1] 24 (0, 0)) (by (with_reducible repeat (first | apply bN_19 | apply bD_19 | apply bA_19)); exact BK422.out) hb); have n1_ := Aside0.mk (blk_below (g := gb423) (o := .cells #[.int .u64 a1_0, .int .u64 a1_1] 24 (0, 0)) (by (with_reducible repeat (first | apply bN_19 | apply bD_19 | apply bA_19)); exact BK423.out) hb); have n2_ := Aside0.mk (below_step (by repeat (first | (with_reducible first | exact HB.out | apply lA_19 | apply lN_19 | apply lD_19 | refine lS_19 ?_ GE422.out | refine lS_19 ?_ GE423.out) | exact HB.out)) hb); clear BK422; clear BK423; clear HB; have BK422 := n0_; have BK423 := n1_; have HB := n2_; clear n0_ n1_ n2_; (try clear hb); (try clear hb2); (try clear hk); (try clear hi); have hcz13_0 : w12.cell? ⟨gb422, 0, none⟩ = some (.int .u64 a0_0) := (blk_cell BK422.out 0).trans rfl; have hcz13_1 : w12.cell? ⟨gb422, 1, none⟩ = some (.int .u64 a0_1) := (blk_cell BK422.out 1).trans rfl; have hfz13_0 := blk_frozen BK422.out 0; have hfz13_1 := blk_frozen BK422.out 1; have hcz14_0 : w12.cell? ⟨gb423, 0, none⟩ = some (.int .u64 a1_0) := (blk_cell BK423.out 0).trans rfl; have hcz14_1 : w12.cell? ⟨gb423, 1, none⟩ = some (.int .u64 a1_1) := (blk_cell BK423.out 1).trans rfl; have hfz14_0 := blk_frozen BK423.out 0; have hfz14_1 := blk_frozen BK423.out 1) | ((with_reducible refine gate_callee (f := 12) rfl ?_); refine goesL_ (some 12) rfl rfl Try.func12 (by kernel_rfl) rfl #[.agg #[.int .u64 a1_0, .int .u64 a1_1]] rfl (by (try simp only [List.map_toArray, List.map_cons, List.map_nil]); first | done | rfl) ?_; (with_reducible refine (lockgatelaw03_May.calls a1_0 a1_1 t426 t427 _ A6.out).mono ?_); rintro e w15 ⟨rfl, hb⟩; refine ⟨_, rfl, ?_⟩; have n0_ := Aside0.mk (blk_below (g := gb422) (o := .cells #[.int .u64 t424, .int .u64 t425] 24 (0, 0)) (by (with_reducible repeat (first | apply bN_19 | apply bD_19 | apply bA_19)); refine blk_put (cs := #[.int .u64 t424, .int .u64 a0_1]) ?_ 1 _ rfl; (with_reducible repeat (first | apply bN_19 | apply bD_19 | apply bA_19)); refine blk_put (cs := #[.int .u64 a0_0, .int .u64 a0_1]) ?_ 0 _ rfl; (with_reducible repeat (first | apply bN_19 | apply bD_19 | apply bA_19)); exact BK422.out) hb); have n1_ := Aside0.mk (blk_below (g := gb423) (o := .cells #[.int .u64 a1_0, .int .u64 a1_1] 24 (0, 0)) (by (with_reducible repeat (first | apply bN_19 | apply bD_19 | apply bA_19)); refine blk_far ?_ NB423_422.out _; (with_reducible repeat (first | apply bN_19 | apply bD_19 | apply bA_19)); refine blk_far ?_ NB423_422.out _; (with_reducible repeat (first | apply bN_19 | apply bD_19 | apply bA_19)); exact BK423.out) hb); have n2_ := Aside0.mk (below_step (by repeat (first | (with_reducible first | exact HB.out | apply lA_19 | apply lN_19 | apply lD_19 | refine lS_19 ?_ GE422.out | refine lS_19 ?_ GE423.out) | exact HB.out)) hb); clear BK422; clear BK423; clear HB; have BK422 := n0_; have BK423 := n1_; have HB := n2_; clear n0_ n1_ n2_; (try clear hb); (try clear hb2); (try clear hk); (try clear hi); have hcz16_0 : w15.cell? ⟨gb423, 0, none⟩ = some (.int .u64 a1_0) := (blk_cell BK423.out 0).trans rfl; have hcz16_1 : w15.cell? ⟨gb423, 1, none⟩ = some (.int .u64 a1_1) := (blk_cell BK423.out 1).trans rfl; have hfz16_0 := blk_frozen BK423.out 0; have hfz16_1 := blk_frozen BK423.out 1))
  (try simp only [Act.put, List.setIfInBounds_toArray, List.set_cons_zero, List.set_cons_succ])
  go_cut [37] (fun v37 wc => ∃ (kq : Nat) (x37_6 : Bool), v37 = .bool x37_6 ∧ Aside0 (lockgatelaw03_TnumBits.j0 kq a2 a3 x37_6 t424 t425 = some r) ∧ Aside0 (kq ≤ k) ∧ Aside0 (wc.heap[gb422]? = some (.cells #[.int .u64 t424, .int .u64 t425] 24 (0, 0))) ∧ Aside0 (wc.heap[gb423]? = some (.cells #[.int .u64 t426, .int .u64 t427] 24 (0, 0))) ∧ Aside0 (Below w.heap.size w wc))
  case first =>
    have H := HC7.out
    clear HC7
    replace H := Option.bind_eq_some_iff.mp H
    obtain ⟨⟨t428, t429⟩, A170, H⟩ := H
    replace H : ((lockgateref03_And.f t424 t425 t426 t427).bind fun bt430 => (if (!(t428 == bt430.1) || (!(t429 == bt430.2))) = true then (lockgatelaw03_TnumBits.j0 k a2 a3 true t424 t425) else ((tnum_Or.f t424 t425 t426 t427).bind fun bt432 => ((lockgateref03_Or.f t424 t425 t426 t427).bind fun bt434 => (if (!(bt432.1 == bt434.1) || (!(bt432.2 == bt434.2))) = true then (lockgatelaw03_TnumBits.j0 k a2 a3 true t424 t425) else ((tnum_Xor.f t424 t425 t426 t427).bind fun bt436 => ((lockgateref03_Xor.f t424 t425 t426 t427).bind fun bt438 => (lockgatelaw03_TnumBits.j0 k a2 a3 (!(bt436.1 == bt438.1) || (!(bt436.2 == bt438.2))) t424 t425)))))))) = some r := H
    have A17 := Aside0.mk A170
    clear A170
    replace H := Option.bind_eq_some_iff.mp H
    obtain ⟨⟨t430, t431⟩, A180, H⟩ := H
    replace H : (if (!(t428 == t430) || (!(t429 == t431))) = true then (lockgatelaw03_TnumBits.j0 k a2 a3 true t424 t425) else ((tnum_Or.f t424 t425 t426 t427).bind fun bt432 => ((lockgateref03_Or.f t424 t425 t426 t427).bind fun bt434 => (if (!(bt432.1 == bt434.1) || (!(bt432.2 == bt434.2))) = true then (lockgatelaw03_TnumBits.j0 k a2 a3 true t424 t425) else ((tnum_Xor.f t424 t425 t426 t427).bind fun bt436 => ((lockgateref03_Xor.f t424 t425 t426 t427).bind fun bt438 => (lockgatelaw03_TnumBits.j0 k a2 a3 (!(bt436.1 == bt438.1) || (!(bt436.2 == bt438.2))) t424 t425))))))) = some r := H
    have A18 := Aside0.mk A180
    clear A180
    by_cases c19 : (!(t428 == t430) || (!(t429 == t431))) = true
    · rw [if_pos c19] at H
      have c19b0 : (!(t428 == t430) || (!(t429 == t431))) = true := c19
      clear c19
      (first | rw [c19b0] | (simp only [i64_w, i32_w]; rw [c19b0]) | skip)
      have H' := Aside0.mk H
      clear H
      try go_wp2
      have n0_ : Aside0 (((w15.setCell ⟨gb423, 0, none⟩ (.int .u64 t426)).setCell ⟨gb423, 1, none⟩ (.int .u64 t427)).heap[gb422]? = some (.cells #[.int .u64 t424, .int .u64 t425] 24 (0, 0))) := ⟨by (with_reducible repeat (first | apply bN_19 | apply bD_19 | apply bA_19)); refine blk_far ?_ NB422_423.out _; (with_reducible repeat (first | apply bN_19 | apply bD_19 | apply bA_19)); refine blk_far ?_ NB422_423.out _; (with_reducible repeat (first | apply bN_19 | apply bD_19 | apply bA_19)); exact BK422.out⟩
      have n1_ : Aside0 (((w15.setCell ⟨gb423, 0, none⟩ (.int .u64 t426)).setCell ⟨gb423, 1, none⟩ (.int .u64 t427)).heap[gb423]? = some (.cells #[.int .u64 t426, .int .u64 t427] 24 (0, 0))) := ⟨by (with_reducible repeat (first | apply bN_19 | apply bD_19 | apply bA_19)); refine blk_put (cs := #[.int .u64 t426, .int .u64 a1_1]) ?_ 1 _ rfl; (with_reducible repeat (first | apply bN_19 | apply bD_19 | apply bA_19)); refine blk_put (cs := #[.int .u64 a1_0, .int .u64 a1_1]) ?_ 0 _ rfl; (with_reducible repeat (first | apply bN_19 | apply bD_19 | apply bA_19)); exact BK423.out⟩
      have n2_ : Aside0 (Below w.heap.size w ((w15.setCell ⟨gb423, 0, none⟩ (.int .u64 t426)).setCell ⟨gb423, 1, none⟩ (.int .u64 t427))) := ⟨by repeat (first | (with_reducible first | exact HB.out | apply lA_19 | apply lN_19 | apply lD_19 | refine lS_19 ?_ GE422.out | refine lS_19 ?_ GE423.out) | exact HB.out)⟩
      (try clear BK422)
      (try clear BK423)
      (try clear HB)
      generalize ((w15.setCell ⟨gb423, 0, none⟩ (.int .u64 t426)).setCell ⟨gb423, 1, none⟩ (.int .u64 t427)) = w20 at n0_ n1_ n2_ ⊢
      have BK422 := n0_
      have BK423 := n1_
      have HB := n2_
      clear n0_ n1_ n2_
      have n0_ := Aside0.mk (blk_drew BK422.out)
      have n1_ := Aside0.mk (blk_drew BK423.out)
      have n2_ := Aside0.mk (below_drew1 HB.out)
      clear BK422
      clear BK423
      clear HB
      have BK422 := n0_
      have BK423 := n1_
      have HB := n2_
      clear n0_ n1_ n2_
      refine start_ (n := 25) (S := fun w' => w'.cell? ⟨gb422, 0, none⟩ = some (.int .u64 t424) ∧ w'.cell? ⟨gb422, 1, none⟩ = some (.int .u64 t425) ∧ w'.cell? ⟨gb423, 0, none⟩ = some (.int .u64 t426) ∧ w'.cell? ⟨gb423, 1, none⟩ = some (.int .u64 t427)) (ds := []) #[false, false, false, false, false, false, false, false, false, false, false, false, false, false, false, false, false, false, false, false, false, false, false, false, false] (by kernel_rfl) rfl rfl ⟨(blk_cell BK422.out 0).trans rfl, (blk_cell BK422.out 1).trans rfl, (blk_cell BK423.out 0).trans rfl, (blk_cell BK423.out 1).trans rfl⟩ (fun hHeld => ?_); refine with_tabW lockgatelaw03_TnumBits.tab3 lockgatelaw03_TnumBits.bits3 (fun HT_ HW_ => ?_)
      generalize w20.drew = w21 at BK422 BK423 HB hHeld ⊢
      refine take_ (i := 0) (N := some 13) (v := ?_) (a' := ?_) #[true, false, false, false, false, false, false, false, false, false, false, false, false, false, false, false, false, false, false, false, false, false, false, false, false] rfl rfl (take_ofW HT_.out HW_.out (by kernel_rfl)) (fun _ _ _ h => h) (Or.inl ⟨by rfl, ?_⟩) hHeld ?_ ?_
      rotate_left
      · rintro w' ⟨s0, s1, s2, s3⟩
        go_simp
        with_reducible rfl
      rotate_left
      · simp only [Act.put, List.setIfInBounds_toArray, List.set_cons_zero, List.set_cons_succ, i64_w, i32_w]
        rfl
      refine take_ (i := 1) (N := some 14) (v := ?_) (a' := ?_) #[true, true, false, false, false, false, false, false, false, false, false, false, false, false, false, false, false, false, false, false, false, false, false, false, false] rfl rfl (take_ofW HT_.out HW_.out (by kernel_rfl)) (fun _ _ _ h => h) (Or.inl ⟨by rfl, ?_⟩) hHeld ?_ ?_
      rotate_left
      · rintro w' ⟨s0, s1, s2, s3⟩
        go_simp
        with_reducible rfl
      rotate_left
      · simp only [Act.put, List.setIfInBounds_toArray, List.set_cons_zero, List.set_cons_succ, i64_w, i32_w]
        rfl
      refine take_ (i := 3) (N := some 16) (v := ?_) (a' := ?_) #[true, true, false, true, false, false, false, false, false, false, false, false, false, false, false, false, false, false, false, false, false, false, false, false, false] rfl rfl (take_ofW HT_.out HW_.out (by kernel_rfl)) (fun _ _ _ h => h) (Or.inl ⟨by rfl, ?_⟩) hHeld ?_ ?_
      rotate_left
      · rintro w' ⟨s0, s1, s2, s3⟩
        go_simp
        with_reducible rfl
      rotate_left
      · simp only [Act.put, List.setIfInBounds_toArray, List.set_cons_zero, List.set_cons_succ, i64_w, i32_w]
        rfl
      refine take_ (i := 4) (N := some 17) (v := ?_) (a' := ?_) #[true, true, false, true, true, false, false, false, false, false, false, false, false, false, false, false, false, false, false, false, false, false, false, false, false] rfl rfl (take_ofW HT_.out HW_.out (by kernel_rfl)) (fun _ _ _ h => h) (Or.inl ⟨by rfl, ?_⟩) hHeld ?_ ?_
      rotate_left
      · rintro w' ⟨s0, s1, s2, s3⟩
        go_simp
        with_reducible rfl
      rotate_left
      · simp only [Act.put, List.setIfInBounds_toArray, List.set_cons_zero, List.set_cons_succ, i64_w, i32_w]
        rfl
      refine one_ (i := 2) (N := some 15) #[true, true, true, true, true, false, false, false, false, false, false, false, false, false, false, false, false, false, false, false, false, false, false, false, false] rfl rfl (one_of HT_.out (by kernel_rfl)) (by decide) (fun K hK => ?_)
      refine goes_ Try.func33 (by kernel_rfl) rfl #[.agg #[.int .u64 t424, .int .u64 t425], .agg #[.int .u64 t426, .int .u64 t427]] (by rfl) rfl rfl (by (try simp only [List.map_toArray, List.map_cons, List.map_nil]); first | done | rfl) ?_
      with_reducible refine (tnum_And.calls t424 t425 t426 t427 t428 t429 _ A17.out).mono ?_
      rintro e w22 ⟨rfl, hb⟩
      refine ⟨_, rfl, ?_⟩
      have n0_ := Aside0.mk (blk_below (g := gb422) (o := .cells #[.int .u64 t424, .int .u64 t425] 24 (0, 0)) (by (with_reducible repeat (first | apply bN_19 | apply bD_19 | apply bA_19)); exact BK422.out) hb)
      have n1_ := Aside0.mk (blk_below (g := gb423) (o := .cells #[.int .u64 t426, .int .u64 t427] 24 (0, 0)) (by (with_reducible repeat (first | apply bN_19 | apply bD_19 | apply bA_19)); exact BK423.out) hb)
      have n2_ := Aside0.mk (below_step (by repeat (first | (with_reducible first | exact HB.out | apply lA_19 | apply lN_19 | apply lD_19 | refine lS_19 ?_ GE422.out | refine lS_19 ?_ GE423.out) | exact HB.out)) hb)
      clear BK422
      clear BK423
      clear HB
      have BK422 := n0_
      have BK423 := n1_
      have HB := n2_
      clear n0_ n1_ n2_
      (try clear hb)
      (try clear hb2)
      (try clear hk)
      (try clear hi)
      refine hK.out _ _ ⟨(blk_cell BK422.out 0).trans rfl, (blk_cell BK422.out 1).trans rfl, (blk_cell BK423.out 0).trans rfl, (blk_cell BK423.out 1).trans rfl⟩ (fun hHeld => ?_)
      clear hK K
      refine norm_ (a' := ?_) ?_ ?_
      rotate_left
      · show Act.put _ (some 15) _ = _
        simp only [Act.put, List.setIfInBounds_toArray, List.set_cons_zero, List.set_cons_succ, i64_w, i32_w]
        rfl
      refine one_ (i := 5) (N := some 18) #[true, true, true, true, true, true, false, false, false, false, false, false, false, false, false, false, false, false, false, false, false, false, false, false, false] rfl rfl (one_of HT_.out (by kernel_rfl)) (by decide) (fun K hK => ?_)
      refine goes_ Try.func38 (by kernel_rfl) rfl #[.agg #[.int .u64 t424, .int .u64 t425], .agg #[.int .u64 t426, .int .u64 t427]] (by rfl) rfl rfl (by (try simp only [List.map_toArray, List.map_cons, List.map_nil]); first | done | rfl) ?_
      with_reducible refine (lockgateref03_And.calls t424 t425 t426 t427 t430 t431 _ A18.out).mono ?_
      rintro e w23 ⟨rfl, hb⟩
      refine ⟨_, rfl, ?_⟩
      have n0_ := Aside0.mk (blk_below (g := gb422) (o := .cells #[.int .u64 t424, .int .u64 t425] 24 (0, 0)) (by (with_reducible repeat (first | apply bN_19 | apply bD_19 | apply bA_19)); exact BK422.out) hb)
      have n1_ := Aside0.mk (blk_below (g := gb423) (o := .cells #[.int .u64 t426, .int .u64 t427] 24 (0, 0)) (by (with_reducible repeat (first | apply bN_19 | apply bD_19 | apply bA_19)); exact BK423.out) hb)
      have n2_ := Aside0.mk (below_step (by repeat (first | (with_reducible first | exact HB.out | apply lA_19 | apply lN_19 | apply lD_19 | refine lS_19 ?_ GE422.out | refine lS_19 ?_ GE423.out) | exact HB.out)) hb)
      clear BK422
      clear BK423
      clear HB
      have BK422 := n0_
      have BK423 := n1_
      have HB := n2_
      clear n0_ n1_ n2_
      (try clear hb)
      (try clear hb2)
      (try clear hk)
      (try clear hi)
      refine hK.out _ _ ⟨(blk_cell BK422.out 0).trans rfl, (blk_cell BK422.out 1).trans rfl, (blk_cell BK423.out 0).trans rfl, (blk_cell BK423.out 1).trans rfl⟩ (fun hHeld => ?_)
      clear hK K
      refine norm_ (a' := ?_) ?_ ?_
      rotate_left
      · show Act.put _ (some 18) _ = _
        simp only [Act.put, List.setIfInBounds_toArray, List.set_cons_zero, List.set_cons_succ, i64_w, i32_w]
        rfl
      refine pure_ (i := 6) (N := some 19) (v := ?_) (a' := ?_) #[true, true, true, true, true, true, true, false, false, false, false, false, false, false, false, false, false, false, false, false, false, false, false, false, false] rfl rfl (any_of HT_.out (by kernel_rfl)) (fun _ _ _ h => h) (Or.inl ⟨by rfl, ?_⟩) ?_ ?_
      rotate_left
      · intro w'
        go_simp
        with_reducible rfl
      rotate_left
      · simp only [Act.put, List.setIfInBounds_toArray, List.set_cons_zero, List.set_cons_succ, i64_w, i32_w]
        rfl
      refine pure_ (i := 7) (N := some 20) (v := ?_) (a' := ?_) #[true, true, true, true, true, true, true, true, false, false, false, false, false, false, false, false, false, false, false, false, false, false, false, false, false] rfl rfl (any_of HT_.out (by kernel_rfl)) (fun _ _ _ h => h) (Or.inl ⟨by rfl, ?_⟩) ?_ ?_
      rotate_left
      · intro w'
        go_simp
        with_reducible rfl
      rotate_left
      · simp only [Act.put, List.setIfInBounds_toArray, List.set_cons_zero, List.set_cons_succ, i64_w, i32_w]
        rfl
      refine pure_ (i := 8) (N := some 21) (v := undef) (a' := ?_) #[true, true, true, true, true, true, true, true, true, false, false, false, false, false, false, false, false, false, false, false, false, false, false, false, false] rfl rfl (any_of HT_.out (by kernel_rfl)) (fun _ _ _ h => h) (Or.inr ⟨by rfl, rfl⟩) ?_ ?_
      rotate_left
      · simp only [Act.put, List.setIfInBounds_toArray, List.set_cons_zero, List.set_cons_succ, i64_w, i32_w]
        rfl
      refine pure_ (i := 9) (N := some 22) (v := undef) (a' := ?_) #[true, true, true, true, true, true, true, true, true, true, false, false, false, false, false, false, false, false, false, false, false, false, false, false, false] rfl rfl (any_of HT_.out (by kernel_rfl)) (fun _ _ _ h => h) (Or.inr ⟨by rfl, rfl⟩) ?_ ?_
      rotate_left
      · simp only [Act.put, List.setIfInBounds_toArray, List.set_cons_zero, List.set_cons_succ, i64_w, i32_w]
        rfl
      refine pure_ (i := 10) (N := some 23) (v := undef) (a' := ?_) #[true, true, true, true, true, true, true, true, true, true, true, false, false, false, false, false, false, false, false, false, false, false, false, false, false] rfl rfl (any_of HT_.out (by kernel_rfl)) (fun _ _ _ h => h) (Or.inr ⟨by rfl, rfl⟩) ?_ ?_
      rotate_left
      · simp only [Act.put, List.setIfInBounds_toArray, List.set_cons_zero, List.set_cons_succ, i64_w, i32_w]
        rfl
      refine pure_ (i := 11) (N := some 24) (v := undef) (a' := ?_) #[true, true, true, true, true, true, true, true, true, true, true, true, false, false, false, false, false, false, false, false, false, false, false, false, false] rfl rfl (any_of HT_.out (by kernel_rfl)) (fun _ _ _ h => h) (Or.inr ⟨by rfl, rfl⟩) ?_ ?_
      rotate_left
      · simp only [Act.put, List.setIfInBounds_toArray, List.set_cons_zero, List.set_cons_succ, i64_w, i32_w]
        rfl
      refine pure_ (i := 12) (N := some 25) (v := undef) (a' := ?_) #[true, true, true, true, true, true, true, true, true, true, true, true, true, false, false, false, false, false, false, false, false, false, false, false, false] rfl rfl (any_of HT_.out (by kernel_rfl)) (fun _ _ _ h => h) (Or.inr ⟨by rfl, rfl⟩) ?_ ?_
      rotate_left
      · simp only [Act.put, List.setIfInBounds_toArray, List.set_cons_zero, List.set_cons_succ, i64_w, i32_w]
        rfl
      refine pure_ (i := 13) (N := some 26) (v := undef) (a' := ?_) #[true, true, true, true, true, true, true, true, true, true, true, true, true, true, false, false, false, false, false, false, false, false, false, false, false] rfl rfl (any_of HT_.out (by kernel_rfl)) (fun _ _ _ h => h) (Or.inr ⟨by rfl, rfl⟩) ?_ ?_
      rotate_left
      · simp only [Act.put, List.setIfInBounds_toArray, List.set_cons_zero, List.set_cons_succ, i64_w, i32_w]
        rfl
      refine pure_ (i := 14) (N := some 27) (v := undef) (a' := ?_) #[true, true, true, true, true, true, true, true, true, true, true, true, true, true, true, false, false, false, false, false, false, false, false, false, false] rfl rfl (any_of HT_.out (by kernel_rfl)) (fun _ _ _ h => h) (Or.inr ⟨by rfl, rfl⟩) ?_ ?_
      rotate_left
      · simp only [Act.put, List.setIfInBounds_toArray, List.set_cons_zero, List.set_cons_succ, i64_w, i32_w]
        rfl
      refine pure_ (i := 15) (N := some 28) (v := ?_) (a' := ?_) #[true, true, true, true, true, true, true, true, true, true, true, true, true, true, true, true, false, false, false, false, false, false, false, false, false] rfl rfl (any_of HT_.out (by kernel_rfl)) (fun _ _ _ h => h) (Or.inl ⟨by rfl, ?_⟩) ?_ ?_
      rotate_left
      · intro w'
        go_simp
        with_reducible rfl
      rotate_left
      · simp only [Act.put, List.setIfInBounds_toArray, List.set_cons_zero, List.set_cons_succ, i64_w, i32_w]
        rfl
      refine pure_ (i := 16) (N := some 29) (v := ?_) (a' := ?_) #[true, true, true, true, true, true, true, true, true, true, true, true, true, true, true, true, true, false, false, false, false, false, false, false, false] rfl rfl (any_of HT_.out (by kernel_rfl)) (fun _ _ _ h => h) (Or.inl ⟨by rfl, ?_⟩) ?_ ?_
      rotate_left
      · intro w'
        go_simp
        with_reducible rfl
      rotate_left
      · simp only [Act.put, List.setIfInBounds_toArray, List.set_cons_zero, List.set_cons_succ, i64_w, i32_w]
        rfl
      refine pure_ (i := 17) (N := some 30) (v := undef) (a' := ?_) #[true, true, true, true, true, true, true, true, true, true, true, true, true, true, true, true, true, true, false, false, false, false, false, false, false] rfl rfl (any_of HT_.out (by kernel_rfl)) (fun _ _ _ h => h) (Or.inr ⟨by rfl, rfl⟩) ?_ ?_
      rotate_left
      · simp only [Act.put, List.setIfInBounds_toArray, List.set_cons_zero, List.set_cons_succ, i64_w, i32_w]
        rfl
      refine pure_ (i := 18) (N := some 31) (v := undef) (a' := ?_) #[true, true, true, true, true, true, true, true, true, true, true, true, true, true, true, true, true, true, true, false, false, false, false, false, false] rfl rfl (any_of HT_.out (by kernel_rfl)) (fun _ _ _ h => h) (Or.inr ⟨by rfl, rfl⟩) ?_ ?_
      rotate_left
      · simp only [Act.put, List.setIfInBounds_toArray, List.set_cons_zero, List.set_cons_succ, i64_w, i32_w]
        rfl
      refine pure_ (i := 19) (N := some 32) (v := undef) (a' := ?_) #[true, true, true, true, true, true, true, true, true, true, true, true, true, true, true, true, true, true, true, true, false, false, false, false, false] rfl rfl (any_of HT_.out (by kernel_rfl)) (fun _ _ _ h => h) (Or.inr ⟨by rfl, rfl⟩) ?_ ?_
      rotate_left
      · simp only [Act.put, List.setIfInBounds_toArray, List.set_cons_zero, List.set_cons_succ, i64_w, i32_w]
        rfl
      refine pure_ (i := 20) (N := some 33) (v := undef) (a' := ?_) #[true, true, true, true, true, true, true, true, true, true, true, true, true, true, true, true, true, true, true, true, true, false, false, false, false] rfl rfl (any_of HT_.out (by kernel_rfl)) (fun _ _ _ h => h) (Or.inr ⟨by rfl, rfl⟩) ?_ ?_
      rotate_left
      · simp only [Act.put, List.setIfInBounds_toArray, List.set_cons_zero, List.set_cons_succ, i64_w, i32_w]
        rfl
      refine pure_ (i := 21) (N := some 34) (v := undef) (a' := ?_) #[true, true, true, true, true, true, true, true, true, true, true, true, true, true, true, true, true, true, true, true, true, true, false, false, false] rfl rfl (any_of HT_.out (by kernel_rfl)) (fun _ _ _ h => h) (Or.inr ⟨by rfl, rfl⟩) ?_ ?_
      rotate_left
      · simp only [Act.put, List.setIfInBounds_toArray, List.set_cons_zero, List.set_cons_succ, i64_w, i32_w]
        rfl
      refine pure_ (i := 22) (N := some 35) (v := undef) (a' := ?_) #[true, true, true, true, true, true, true, true, true, true, true, true, true, true, true, true, true, true, true, true, true, true, true, false, false] rfl rfl (any_of HT_.out (by kernel_rfl)) (fun _ _ _ h => h) (Or.inr ⟨by rfl, rfl⟩) ?_ ?_
      rotate_left
      · simp only [Act.put, List.setIfInBounds_toArray, List.set_cons_zero, List.set_cons_succ, i64_w, i32_w]
        rfl
      refine pure_ (i := 23) (N := some 36) (v := undef) (a' := ?_) #[true, true, true, true, true, true, true, true, true, true, true, true, true, true, true, true, true, true, true, true, true, true, true, true, false] rfl rfl (any_of HT_.out (by kernel_rfl)) (fun _ _ _ h => h) (Or.inr ⟨by rfl, rfl⟩) ?_ ?_
      rotate_left
      · simp only [Act.put, List.setIfInBounds_toArray, List.set_cons_zero, List.set_cons_succ, i64_w, i32_w]
        rfl
      refine pure_ (i := 24) (N := some 37) (v := ?_) (a' := ?_) #[true, true, true, true, true, true, true, true, true, true, true, true, true, true, true, true, true, true, true, true, true, true, true, true, true] rfl rfl (any_of HT_.out (by kernel_rfl)) (fun _ _ _ h => h) (Or.inl ⟨by rfl, ?_⟩) ?_ ?_
      rotate_left
      · intro w'
        go_simp
        with_reducible rfl
      rotate_left
      · simp only [Act.put, List.setIfInBounds_toArray, List.set_cons_zero, List.set_cons_succ, i64_w, i32_w]
        rfl
      refine done_ (done_of HT_.out (by kernel_rfl)) ?_
      try go_wp2
      go_meet
      case rel => exact ⟨_, (true), (by first | rfl | (simp; done) | (simp [*]; done)), H', ⟨by first | omega | exact Nat.le_refl _⟩, ⟨by (with_reducible repeat (first | apply bN_19 | apply bD_19 | apply bA_19)); exact BK422.out⟩, ⟨by (with_reducible repeat (first | apply bN_19 | apply bD_19 | apply bA_19)); exact BK423.out⟩, ⟨by repeat (first | (with_reducible first | exact HB.out | apply lA_19 | apply lN_19 | apply lD_19 | refine lS_19 ?_ GE422.out | refine lS_19 ?_ GE423.out) | exact HB.out)⟩⟩
    · rw [if_neg c19] at H
      have c19b0 : (!(t428 == t430) || (!(t429 == t431))) = false := by simpa using c19
      clear c19
      (first | rw [c19b0] | (simp only [i64_w, i32_w]; rw [c19b0]) | skip)
      replace H := Option.bind_eq_some_iff.mp H
      obtain ⟨⟨t432, t433⟩, A240, H⟩ := H
      replace H : ((lockgateref03_Or.f t424 t425 t426 t427).bind fun bt434 => (if (!(t432 == bt434.1) || (!(t433 == bt434.2))) = true then (lockgatelaw03_TnumBits.j0 k a2 a3 true t424 t425) else ((tnum_Xor.f t424 t425 t426 t427).bind fun bt436 => ((lockgateref03_Xor.f t424 t425 t426 t427).bind fun bt438 => (lockgatelaw03_TnumBits.j0 k a2 a3 (!(bt436.1 == bt438.1) || (!(bt436.2 == bt438.2))) t424 t425))))) = some r := H
      have A24 := Aside0.mk A240
      clear A240
      replace H := Option.bind_eq_some_iff.mp H
      obtain ⟨⟨t434, t435⟩, A250, H⟩ := H
      replace H : (if (!(t432 == t434) || (!(t433 == t435))) = true then (lockgatelaw03_TnumBits.j0 k a2 a3 true t424 t425) else ((tnum_Xor.f t424 t425 t426 t427).bind fun bt436 => ((lockgateref03_Xor.f t424 t425 t426 t427).bind fun bt438 => (lockgatelaw03_TnumBits.j0 k a2 a3 (!(bt436.1 == bt438.1) || (!(bt436.2 == bt438.2))) t424 t425)))) = some r := H
      have A25 := Aside0.mk A250
      clear A250
      by_cases c26 : (!(t432 == t434) || (!(t433 == t435))) = true
      · rw [if_pos c26] at H
        have c26b0 : (!(t432 == t434) || (!(t433 == t435))) = true := c26
        clear c26
        have H' := Aside0.mk H
        clear H
        try go_wp2
        have n0_ : Aside0 (((w15.setCell ⟨gb423, 0, none⟩ (.int .u64 t426)).setCell ⟨gb423, 1, none⟩ (.int .u64 t427)).heap[gb422]? = some (.cells #[.int .u64 t424, .int .u64 t425] 24 (0, 0))) := ⟨by (with_reducible repeat (first | apply bN_19 | apply bD_19 | apply bA_19)); refine blk_far ?_ NB422_423.out _; (with_reducible repeat (first | apply bN_19 | apply bD_19 | apply bA_19)); refine blk_far ?_ NB422_423.out _; (with_reducible repeat (first | apply bN_19 | apply bD_19 | apply bA_19)); exact BK422.out⟩
        have n1_ : Aside0 (((w15.setCell ⟨gb423, 0, none⟩ (.int .u64 t426)).setCell ⟨gb423, 1, none⟩ (.int .u64 t427)).heap[gb423]? = some (.cells #[.int .u64 t426, .int .u64 t427] 24 (0, 0))) := ⟨by (with_reducible repeat (first | apply bN_19 | apply bD_19 | apply bA_19)); refine blk_put (cs := #[.int .u64 t426, .int .u64 a1_1]) ?_ 1 _ rfl; (with_reducible repeat (first | apply bN_19 | apply bD_19 | apply bA_19)); refine blk_put (cs := #[.int .u64 a1_0, .int .u64 a1_1]) ?_ 0 _ rfl; (with_reducible repeat (first | apply bN_19 | apply bD_19 | apply bA_19)); exact BK423.out⟩
        have n2_ : Aside0 (Below w.heap.size w ((w15.setCell ⟨gb423, 0, none⟩ (.int .u64 t426)).setCell ⟨gb423, 1, none⟩ (.int .u64 t427))) := ⟨by repeat (first | (with_reducible first | exact HB.out | apply lA_19 | apply lN_19 | apply lD_19 | refine lS_19 ?_ GE422.out | refine lS_19 ?_ GE423.out) | exact HB.out)⟩
        (try clear BK422)
        (try clear BK423)
        (try clear HB)
        generalize ((w15.setCell ⟨gb423, 0, none⟩ (.int .u64 t426)).setCell ⟨gb423, 1, none⟩ (.int .u64 t427)) = w27 at n0_ n1_ n2_ ⊢
        have BK422 := n0_
        have BK423 := n1_
        have HB := n2_
        clear n0_ n1_ n2_
        have n0_ := Aside0.mk (blk_drew BK422.out)
        have n1_ := Aside0.mk (blk_drew BK423.out)
        have n2_ := Aside0.mk (below_drew1 HB.out)
        clear BK422
        clear BK423
        clear HB
        have BK422 := n0_
        have BK423 := n1_
        have HB := n2_
        clear n0_ n1_ n2_
        refine start_ (n := 25) (S := fun w' => w'.cell? ⟨gb422, 0, none⟩ = some (.int .u64 t424) ∧ w'.cell? ⟨gb422, 1, none⟩ = some (.int .u64 t425) ∧ w'.cell? ⟨gb423, 0, none⟩ = some (.int .u64 t426) ∧ w'.cell? ⟨gb423, 1, none⟩ = some (.int .u64 t427)) (ds := []) #[false, false, false, false, false, false, false, false, false, false, false, false, false, false, false, false, false, false, false, false, false, false, false, false, false] (by kernel_rfl) rfl rfl ⟨(blk_cell BK422.out 0).trans rfl, (blk_cell BK422.out 1).trans rfl, (blk_cell BK423.out 0).trans rfl, (blk_cell BK423.out 1).trans rfl⟩ (fun hHeld => ?_); refine with_tabW lockgatelaw03_TnumBits.tab3 lockgatelaw03_TnumBits.bits3 (fun HT_ HW_ => ?_)
        generalize w27.drew = w28 at BK422 BK423 HB hHeld ⊢
        refine take_ (i := 0) (N := some 13) (v := ?_) (a' := ?_) #[true, false, false, false, false, false, false, false, false, false, false, false, false, false, false, false, false, false, false, false, false, false, false, false, false] rfl rfl (take_ofW HT_.out HW_.out (by kernel_rfl)) (fun _ _ _ h => h) (Or.inl ⟨by rfl, ?_⟩) hHeld ?_ ?_
        rotate_left
        · rintro w' ⟨s0, s1, s2, s3⟩
          go_simp
          with_reducible rfl
        rotate_left
        · simp only [Act.put, List.setIfInBounds_toArray, List.set_cons_zero, List.set_cons_succ, i64_w, i32_w]
          rfl
        refine take_ (i := 1) (N := some 14) (v := ?_) (a' := ?_) #[true, true, false, false, false, false, false, false, false, false, false, false, false, false, false, false, false, false, false, false, false, false, false, false, false] rfl rfl (take_ofW HT_.out HW_.out (by kernel_rfl)) (fun _ _ _ h => h) (Or.inl ⟨by rfl, ?_⟩) hHeld ?_ ?_
        rotate_left
        · rintro w' ⟨s0, s1, s2, s3⟩
          go_simp
          with_reducible rfl
        rotate_left
        · simp only [Act.put, List.setIfInBounds_toArray, List.set_cons_zero, List.set_cons_succ, i64_w, i32_w]
          rfl
        refine take_ (i := 3) (N := some 16) (v := ?_) (a' := ?_) #[true, true, false, true, false, false, false, false, false, false, false, false, false, false, false, false, false, false, false, false, false, false, false, false, false] rfl rfl (take_ofW HT_.out HW_.out (by kernel_rfl)) (fun _ _ _ h => h) (Or.inl ⟨by rfl, ?_⟩) hHeld ?_ ?_
        rotate_left
        · rintro w' ⟨s0, s1, s2, s3⟩
          go_simp
          with_reducible rfl
        rotate_left
        · simp only [Act.put, List.setIfInBounds_toArray, List.set_cons_zero, List.set_cons_succ, i64_w, i32_w]
          rfl
        refine take_ (i := 4) (N := some 17) (v := ?_) (a' := ?_) #[true, true, false, true, true, false, false, false, false, false, false, false, false, false, false, false, false, false, false, false, false, false, false, false, false] rfl rfl (take_ofW HT_.out HW_.out (by kernel_rfl)) (fun _ _ _ h => h) (Or.inl ⟨by rfl, ?_⟩) hHeld ?_ ?_
        rotate_left
        · rintro w' ⟨s0, s1, s2, s3⟩
          go_simp
          with_reducible rfl
        rotate_left
        · simp only [Act.put, List.setIfInBounds_toArray, List.set_cons_zero, List.set_cons_succ, i64_w, i32_w]
          rfl
        refine one_ (i := 2) (N := some 15) #[true, true, true, true, true, false, false, false, false, false, false, false, false, false, false, false, false, false, false, false, false, false, false, false, false] rfl rfl (one_of HT_.out (by kernel_rfl)) (by decide) (fun K hK => ?_)
        refine goes_ Try.func33 (by kernel_rfl) rfl #[.agg #[.int .u64 t424, .int .u64 t425], .agg #[.int .u64 t426, .int .u64 t427]] (by rfl) rfl rfl (by (try simp only [List.map_toArray, List.map_cons, List.map_nil]); first | done | rfl) ?_
        with_reducible refine (tnum_And.calls t424 t425 t426 t427 t428 t429 _ A17.out).mono ?_
        rintro e w29 ⟨rfl, hb⟩
        refine ⟨_, rfl, ?_⟩
        have n0_ := Aside0.mk (blk_below (g := gb422) (o := .cells #[.int .u64 t424, .int .u64 t425] 24 (0, 0)) (by (with_reducible repeat (first | apply bN_19 | apply bD_19 | apply bA_19)); exact BK422.out) hb)
        have n1_ := Aside0.mk (blk_below (g := gb423) (o := .cells #[.int .u64 t426, .int .u64 t427] 24 (0, 0)) (by (with_reducible repeat (first | apply bN_19 | apply bD_19 | apply bA_19)); exact BK423.out) hb)
        have n2_ := Aside0.mk (below_step (by repeat (first | (with_reducible first | exact HB.out | apply lA_19 | apply lN_19 | apply lD_19 | refine lS_19 ?_ GE422.out | refine lS_19 ?_ GE423.out) | exact HB.out)) hb)
        clear BK422
        clear BK423
        clear HB
        have BK422 := n0_
        have BK423 := n1_
        have HB := n2_
        clear n0_ n1_ n2_
        (try clear hb)
        (try clear hb2)
        (try clear hk)
        (try clear hi)
        refine hK.out _ _ ⟨(blk_cell BK422.out 0).trans rfl, (blk_cell BK422.out 1).trans rfl, (blk_cell BK423.out 0).trans rfl, (blk_cell BK423.out 1).trans rfl⟩ (fun hHeld => ?_)
        clear hK K
        refine norm_ (a' := ?_) ?_ ?_
        rotate_left
        · show Act.put _ (some 15) _ = _
          simp only [Act.put, List.setIfInBounds_toArray, List.set_cons_zero, List.set_cons_succ, i64_w, i32_w]
          rfl
        refine one_ (i := 5) (N := some 18) #[true, true, true, true, true, true, false, false, false, false, false, false, false, false, false, false, false, false, false, false, false, false, false, false, false] rfl rfl (one_of HT_.out (by kernel_rfl)) (by decide) (fun K hK => ?_)
        refine goes_ Try.func38 (by kernel_rfl) rfl #[.agg #[.int .u64 t424, .int .u64 t425], .agg #[.int .u64 t426, .int .u64 t427]] (by rfl) rfl rfl (by (try simp only [List.map_toArray, List.map_cons, List.map_nil]); first | done | rfl) ?_
        with_reducible refine (lockgateref03_And.calls t424 t425 t426 t427 t430 t431 _ A18.out).mono ?_
        rintro e w30 ⟨rfl, hb⟩
        refine ⟨_, rfl, ?_⟩
        have n0_ := Aside0.mk (blk_below (g := gb422) (o := .cells #[.int .u64 t424, .int .u64 t425] 24 (0, 0)) (by (with_reducible repeat (first | apply bN_19 | apply bD_19 | apply bA_19)); exact BK422.out) hb)
        have n1_ := Aside0.mk (blk_below (g := gb423) (o := .cells #[.int .u64 t426, .int .u64 t427] 24 (0, 0)) (by (with_reducible repeat (first | apply bN_19 | apply bD_19 | apply bA_19)); exact BK423.out) hb)
        have n2_ := Aside0.mk (below_step (by repeat (first | (with_reducible first | exact HB.out | apply lA_19 | apply lN_19 | apply lD_19 | refine lS_19 ?_ GE422.out | refine lS_19 ?_ GE423.out) | exact HB.out)) hb)
        clear BK422
        clear BK423
        clear HB
        have BK422 := n0_
        have BK423 := n1_
        have HB := n2_
        clear n0_ n1_ n2_
        (try clear hb)
        (try clear hb2)
        (try clear hk)
        (try clear hi)
        refine hK.out _ _ ⟨(blk_cell BK422.out 0).trans rfl, (blk_cell BK422.out 1).trans rfl, (blk_cell BK423.out 0).trans rfl, (blk_cell BK423.out 1).trans rfl⟩ (fun hHeld => ?_)
        clear hK K
        refine norm_ (a' := ?_) ?_ ?_
        rotate_left
        · show Act.put _ (some 18) _ = _
          simp only [Act.put, List.setIfInBounds_toArray, List.set_cons_zero, List.set_cons_succ, i64_w, i32_w]
          rfl
        refine pure_ (i := 6) (N := some 19) (v := ?_) (a' := ?_) #[true, true, true, true, true, true, true, false, false, false, false, false, false, false, false, false, false, false, false, false, false, false, false, false, false] rfl rfl (any_of HT_.out (by kernel_rfl)) (fun _ _ _ h => h) (Or.inl ⟨by rfl, ?_⟩) ?_ ?_
        rotate_left
        · intro w'
          go_simp
          with_reducible rfl
        rotate_left
        · simp only [Act.put, List.setIfInBounds_toArray, List.set_cons_zero, List.set_cons_succ, i64_w, i32_w]
          rfl
        refine pure_ (i := 7) (N := some 20) (v := ?_) (a' := ?_) #[true, true, true, true, true, true, true, true, false, false, false, false, false, false, false, false, false, false, false, false, false, false, false, false, false] rfl rfl (any_of HT_.out (by kernel_rfl)) (fun _ _ _ h => h) (Or.inl ⟨by rfl, ?_⟩) ?_ ?_
        rotate_left
        · intro w'
          go_simp
          with_reducible rfl
        rotate_left
        · simp only [Act.put, List.setIfInBounds_toArray, List.set_cons_zero, List.set_cons_succ, i64_w, i32_w]
          rfl
        refine take_ (i := 8) (N := some 21) (v := ?_) (a' := ?_) #[true, true, true, true, true, true, true, true, true, false, false, false, false, false, false, false, false, false, false, false, false, false, false, false, false] rfl rfl (take_ofW HT_.out HW_.out (by kernel_rfl)) (fun _ _ _ h => h) (Or.inl ⟨by rfl, ?_⟩) hHeld ?_ ?_
        rotate_left
        · rintro w' ⟨s0, s1, s2, s3⟩
          go_simp
          with_reducible rfl
        rotate_left
        · simp only [Act.put, List.setIfInBounds_toArray, List.set_cons_zero, List.set_cons_succ, i64_w, i32_w]
          rfl
        refine take_ (i := 9) (N := some 22) (v := ?_) (a' := ?_) #[true, true, true, true, true, true, true, true, true, true, false, false, false, false, false, false, false, false, false, false, false, false, false, false, false] rfl rfl (take_ofW HT_.out HW_.out (by kernel_rfl)) (fun _ _ _ h => h) (Or.inl ⟨by rfl, ?_⟩) hHeld ?_ ?_
        rotate_left
        · rintro w' ⟨s0, s1, s2, s3⟩
          go_simp
          with_reducible rfl
        rotate_left
        · simp only [Act.put, List.setIfInBounds_toArray, List.set_cons_zero, List.set_cons_succ, i64_w, i32_w]
          rfl
        refine take_ (i := 11) (N := some 24) (v := ?_) (a' := ?_) #[true, true, true, true, true, true, true, true, true, true, false, true, false, false, false, false, false, false, false, false, false, false, false, false, false] rfl rfl (take_ofW HT_.out HW_.out (by kernel_rfl)) (fun _ _ _ h => h) (Or.inl ⟨by rfl, ?_⟩) hHeld ?_ ?_
        rotate_left
        · rintro w' ⟨s0, s1, s2, s3⟩
          go_simp
          with_reducible rfl
        rotate_left
        · simp only [Act.put, List.setIfInBounds_toArray, List.set_cons_zero, List.set_cons_succ, i64_w, i32_w]
          rfl
        refine take_ (i := 12) (N := some 25) (v := ?_) (a' := ?_) #[true, true, true, true, true, true, true, true, true, true, false, true, true, false, false, false, false, false, false, false, false, false, false, false, false] rfl rfl (take_ofW HT_.out HW_.out (by kernel_rfl)) (fun _ _ _ h => h) (Or.inl ⟨by rfl, ?_⟩) hHeld ?_ ?_
        rotate_left
        · rintro w' ⟨s0, s1, s2, s3⟩
          go_simp
          with_reducible rfl
        rotate_left
        · simp only [Act.put, List.setIfInBounds_toArray, List.set_cons_zero, List.set_cons_succ, i64_w, i32_w]
          rfl
        refine one_ (i := 10) (N := some 23) #[true, true, true, true, true, true, true, true, true, true, true, true, true, false, false, false, false, false, false, false, false, false, false, false, false] rfl rfl (one_of HT_.out (by kernel_rfl)) (by decide) (fun K hK => ?_)
        refine goes_ Try.func34 (by kernel_rfl) rfl #[.agg #[.int .u64 t424, .int .u64 t425], .agg #[.int .u64 t426, .int .u64 t427]] (by rfl) rfl rfl (by (try simp only [List.map_toArray, List.map_cons, List.map_nil]); first | done | rfl) ?_
        with_reducible refine (tnum_Or.calls t424 t425 t426 t427 t432 t433 _ A24.out).mono ?_
        rintro e w31 ⟨rfl, hb⟩
        refine ⟨_, rfl, ?_⟩
        have n0_ := Aside0.mk (blk_below (g := gb422) (o := .cells #[.int .u64 t424, .int .u64 t425] 24 (0, 0)) (by (with_reducible repeat (first | apply bN_19 | apply bD_19 | apply bA_19)); exact BK422.out) hb)
        have n1_ := Aside0.mk (blk_below (g := gb423) (o := .cells #[.int .u64 t426, .int .u64 t427] 24 (0, 0)) (by (with_reducible repeat (first | apply bN_19 | apply bD_19 | apply bA_19)); exact BK423.out) hb)
        have n2_ := Aside0.mk (below_step (by repeat (first | (with_reducible first | exact HB.out | apply lA_19 | apply lN_19 | apply lD_19 | refine lS_19 ?_ GE422.out | refine lS_19 ?_ GE423.out) | exact HB.out)) hb)
        clear BK422
        clear BK423
        clear HB
        have BK422 := n0_
        have BK423 := n1_
        have HB := n2_
        clear n0_ n1_ n2_
        (try clear hb)
        (try clear hb2)
        (try clear hk)
        (try clear hi)
        refine hK.out _ _ ⟨(blk_cell BK422.out 0).trans rfl, (blk_cell BK422.out 1).trans rfl, (blk_cell BK423.out 0).trans rfl, (blk_cell BK423.out 1).trans rfl⟩ (fun hHeld => ?_)
        clear hK K
        refine norm_ (a' := ?_) ?_ ?_
        rotate_left
        · show Act.put _ (some 23) _ = _
          simp only [Act.put, List.setIfInBounds_toArray, List.set_cons_zero, List.set_cons_succ, i64_w, i32_w]
          rfl
        refine one_ (i := 13) (N := some 26) #[true, true, true, true, true, true, true, true, true, true, true, true, true, true, false, false, false, false, false, false, false, false, false, false, false] rfl rfl (one_of HT_.out (by kernel_rfl)) (by decide) (fun K hK => ?_)
        refine goes_ Try.func39 (by kernel_rfl) rfl #[.agg #[.int .u64 t424, .int .u64 t425], .agg #[.int .u64 t426, .int .u64 t427]] (by rfl) rfl rfl (by (try simp only [List.map_toArray, List.map_cons, List.map_nil]); first | done | rfl) ?_
        with_reducible refine (lockgateref03_Or.calls t424 t425 t426 t427 t434 t435 _ A25.out).mono ?_
        rintro e w32 ⟨rfl, hb⟩
        refine ⟨_, rfl, ?_⟩
        have n0_ := Aside0.mk (blk_below (g := gb422) (o := .cells #[.int .u64 t424, .int .u64 t425] 24 (0, 0)) (by (with_reducible repeat (first | apply bN_19 | apply bD_19 | apply bA_19)); exact BK422.out) hb)
        have n1_ := Aside0.mk (blk_below (g := gb423) (o := .cells #[.int .u64 t426, .int .u64 t427] 24 (0, 0)) (by (with_reducible repeat (first | apply bN_19 | apply bD_19 | apply bA_19)); exact BK423.out) hb)
        have n2_ := Aside0.mk (below_step (by repeat (first | (with_reducible first | exact HB.out | apply lA_19 | apply lN_19 | apply lD_19 | refine lS_19 ?_ GE422.out | refine lS_19 ?_ GE423.out) | exact HB.out)) hb)
        clear BK422
        clear BK423
        clear HB
        have BK422 := n0_
        have BK423 := n1_
        have HB := n2_
        clear n0_ n1_ n2_
        (try clear hb)
        (try clear hb2)
        (try clear hk)
        (try clear hi)
        refine hK.out _ _ ⟨(blk_cell BK422.out 0).trans rfl, (blk_cell BK422.out 1).trans rfl, (blk_cell BK423.out 0).trans rfl, (blk_cell BK423.out 1).trans rfl⟩ (fun hHeld => ?_)
        clear hK K
        refine norm_ (a' := ?_) ?_ ?_
        rotate_left
        · show Act.put _ (some 26) _ = _
          simp only [Act.put, List.setIfInBounds_toArray, List.set_cons_zero, List.set_cons_succ, i64_w, i32_w]
          rfl
        refine pure_ (i := 14) (N := some 27) (v := ?_) (a' := ?_) #[true, true, true, true, true, true, true, true, true, true, true, true, true, true, true, false, false, false, false, false, false, false, false, false, false] rfl rfl (any_of HT_.out (by kernel_rfl)) (fun _ _ _ h => h) (Or.inl ⟨by rfl, ?_⟩) ?_ ?_
        rotate_left
        · intro w'
          go_simp
          with_reducible rfl
        rotate_left
        · simp only [Act.put, List.setIfInBounds_toArray, List.set_cons_zero, List.set_cons_succ, i64_w, i32_w]
          rfl
        refine pure_ (i := 15) (N := some 28) (v := ?_) (a' := ?_) #[true, true, true, true, true, true, true, true, true, true, true, true, true, true, true, true, false, false, false, false, false, false, false, false, false] rfl rfl (any_of HT_.out (by kernel_rfl)) (fun _ _ _ h => h) (Or.inl ⟨by rfl, ?_⟩) ?_ ?_
        rotate_left
        · intro w'
          go_simp
          with_reducible rfl
        rotate_left
        · simp only [Act.put, List.setIfInBounds_toArray, List.set_cons_zero, List.set_cons_succ, i64_w, i32_w]
          rfl
        refine pure_ (i := 16) (N := some 29) (v := ?_) (a' := ?_) #[true, true, true, true, true, true, true, true, true, true, true, true, true, true, true, true, true, false, false, false, false, false, false, false, false] rfl rfl (any_of HT_.out (by kernel_rfl)) (fun _ _ _ h => h) (Or.inl ⟨by rfl, ?_⟩) ?_ ?_
        rotate_left
        · intro w'
          go_simp
          with_reducible rfl
        rotate_left
        · simp only [Act.put, List.setIfInBounds_toArray, List.set_cons_zero, List.set_cons_succ, i64_w, i32_w]
          rfl
        refine pure_ (i := 17) (N := some 30) (v := undef) (a' := ?_) #[true, true, true, true, true, true, true, true, true, true, true, true, true, true, true, true, true, true, false, false, false, false, false, false, false] rfl rfl (any_of HT_.out (by kernel_rfl)) (fun _ _ _ h => h) (Or.inr ⟨by rfl, rfl⟩) ?_ ?_
        rotate_left
        · simp only [Act.put, List.setIfInBounds_toArray, List.set_cons_zero, List.set_cons_succ, i64_w, i32_w]
          rfl
        refine pure_ (i := 18) (N := some 31) (v := undef) (a' := ?_) #[true, true, true, true, true, true, true, true, true, true, true, true, true, true, true, true, true, true, true, false, false, false, false, false, false] rfl rfl (any_of HT_.out (by kernel_rfl)) (fun _ _ _ h => h) (Or.inr ⟨by rfl, rfl⟩) ?_ ?_
        rotate_left
        · simp only [Act.put, List.setIfInBounds_toArray, List.set_cons_zero, List.set_cons_succ, i64_w, i32_w]
          rfl
        refine pure_ (i := 19) (N := some 32) (v := undef) (a' := ?_) #[true, true, true, true, true, true, true, true, true, true, true, true, true, true, true, true, true, true, true, true, false, false, false, false, false] rfl rfl (any_of HT_.out (by kernel_rfl)) (fun _ _ _ h => h) (Or.inr ⟨by rfl, rfl⟩) ?_ ?_
        rotate_left
        · simp only [Act.put, List.setIfInBounds_toArray, List.set_cons_zero, List.set_cons_succ, i64_w, i32_w]
          rfl
        refine pure_ (i := 20) (N := some 33) (v := undef) (a' := ?_) #[true, true, true, true, true, true, true, true, true, true, true, true, true, true, true, true, true, true, true, true, true, false, false, false, false] rfl rfl (any_of HT_.out (by kernel_rfl)) (fun _ _ _ h => h) (Or.inr ⟨by rfl, rfl⟩) ?_ ?_
        rotate_left
        · simp only [Act.put, List.setIfInBounds_toArray, List.set_cons_zero, List.set_cons_succ, i64_w, i32_w]
          rfl
        refine pure_ (i := 21) (N := some 34) (v := undef) (a' := ?_) #[true, true, true, true, true, true, true, true, true, true, true, true, true, true, true, true, true, true, true, true, true, true, false, false, false] rfl rfl (any_of HT_.out (by kernel_rfl)) (fun _ _ _ h => h) (Or.inr ⟨by rfl, rfl⟩) ?_ ?_
        rotate_left
        · simp only [Act.put, List.setIfInBounds_toArray, List.set_cons_zero, List.set_cons_succ, i64_w, i32_w]
          rfl
        refine pure_ (i := 22) (N := some 35) (v := undef) (a' := ?_) #[true, true, true, true, true, true, true, true, true, true, true, true, true, true, true, true, true, true, true, true, true, true, true, false, false] rfl rfl (any_of HT_.out (by kernel_rfl)) (fun _ _ _ h => h) (Or.inr ⟨by rfl, rfl⟩) ?_ ?_
        rotate_left
        · simp only [Act.put, List.setIfInBounds_toArray, List.set_cons_zero, List.set_cons_succ, i64_w, i32_w]
          rfl
        refine pure_ (i := 23) (N := some 36) (v := undef) (a' := ?_) #[true, true, true, true, true, true, true, true, true, true, true, true, true, true, true, true, true, true, true, true, true, true, true, true, false] rfl rfl (any_of HT_.out (by kernel_rfl)) (fun _ _ _ h => h) (Or.inr ⟨by rfl, rfl⟩) ?_ ?_
        rotate_left
        · simp only [Act.put, List.setIfInBounds_toArray, List.set_cons_zero, List.set_cons_succ, i64_w, i32_w]
          rfl
        refine pure_ (i := 24) (N := some 37) (v := ?_) (a' := ?_) #[true, true, true, true, true, true, true, true, true, true, true, true, true, true, true, true, true, true, true, true, true, true, true, true, true] rfl rfl (any_of HT_.out (by kernel_rfl)) (fun _ _ _ h => h) (Or.inl ⟨by rfl, ?_⟩) ?_ ?_
        rotate_left
        · intro w'
          go_simp
          with_reducible rfl
        rotate_left
        · simp only [Act.put, List.setIfInBounds_toArray, List.set_cons_zero, List.set_cons_succ, i64_w, i32_w]
          rfl
        refine done_ (done_of HT_.out (by kernel_rfl)) ?_
        try go_wp2
        go_meet
        case rel => exact ⟨_, (true), (by first | rfl | (simp; done) | (simp [*]; done)), H', ⟨by first | omega | exact Nat.le_refl _⟩, ⟨by (with_reducible repeat (first | apply bN_19 | apply bD_19 | apply bA_19)); exact BK422.out⟩, ⟨by (with_reducible repeat (first | apply bN_19 | apply bD_19 | apply bA_19)); exact BK423.out⟩, ⟨by repeat (first | (with_reducible first | exact HB.out | apply lA_19 | apply lN_19 | apply lD_19 | refine lS_19 ?_ GE422.out | refine lS_19 ?_ GE423.out) | exact HB.out)⟩⟩
      · rw [if_neg c26] at H
        have c26b0 : (!(t432 == t434) || (!(t433 == t435))) = false := by simpa using c26
        clear c26
        replace H := Option.bind_eq_some_iff.mp H
        obtain ⟨⟨t436, t437⟩, A330, H⟩ := H
        replace H : ((lockgateref03_Xor.f t424 t425 t426 t427).bind fun bt438 => (lockgatelaw03_TnumBits.j0 k a2 a3 (!(t436 == bt438.1) || (!(t437 == bt438.2))) t424 t425)) = some r := H
        have A33 := Aside0.mk A330
        clear A330
        replace H := Option.bind_eq_some_iff.mp H
        obtain ⟨⟨t438, t439⟩, A340, H⟩ := H
        replace H : (lockgatelaw03_TnumBits.j0 k a2 a3 (!(t436 == t438) || (!(t437 == t439))) t424 t425) = some r := H
        have A34 := Aside0.mk A340
        clear A340
        have H' := Aside0.mk H
        clear H
        try go_wp2
        have n0_ : Aside0 (((w15.setCell ⟨gb423, 0, none⟩ (.int .u64 t426)).setCell ⟨gb423, 1, none⟩ (.int .u64 t427)).heap[gb422]? = some (.cells #[.int .u64 t424, .int .u64 t425] 24 (0, 0))) := ⟨by (with_reducible repeat (first | apply bN_19 | apply bD_19 | apply bA_19)); refine blk_far ?_ NB422_423.out _; (with_reducible repeat (first | apply bN_19 | apply bD_19 | apply bA_19)); refine blk_far ?_ NB422_423.out _; (with_reducible repeat (first | apply bN_19 | apply bD_19 | apply bA_19)); exact BK422.out⟩
        have n1_ : Aside0 (((w15.setCell ⟨gb423, 0, none⟩ (.int .u64 t426)).setCell ⟨gb423, 1, none⟩ (.int .u64 t427)).heap[gb423]? = some (.cells #[.int .u64 t426, .int .u64 t427] 24 (0, 0))) := ⟨by (with_reducible repeat (first | apply bN_19 | apply bD_19 | apply bA_19)); refine blk_put (cs := #[.int .u64 t426, .int .u64 a1_1]) ?_ 1 _ rfl; (with_reducible repeat (first | apply bN_19 | apply bD_19 | apply bA_19)); refine blk_put (cs := #[.int .u64 a1_0, .int .u64 a1_1]) ?_ 0 _ rfl; (with_reducible repeat (first | apply bN_19 | apply bD_19 | apply bA_19)); exact BK423.out⟩
        have n2_ : Aside0 (Below w.heap.size w ((w15.setCell ⟨gb423, 0, none⟩ (.int .u64 t426)).setCell ⟨gb423, 1, none⟩ (.int .u64 t427))) := ⟨by repeat (first | (with_reducible first | exact HB.out | apply lA_19 | apply lN_19 | apply lD_19 | refine lS_19 ?_ GE422.out | refine lS_19 ?_ GE423.out) | exact HB.out)⟩
        (try clear BK422)
        (try clear BK423)
        (try clear HB)
        generalize ((w15.setCell ⟨gb423, 0, none⟩ (.int .u64 t426)).setCell ⟨gb423, 1, none⟩ (.int .u64 t427)) = w35 at n0_ n1_ n2_ ⊢
        have BK422 := n0_
        have BK423 := n1_
        have HB := n2_
        clear n0_ n1_ n2_
        have n0_ := Aside0.mk (blk_drew BK422.out)
        have n1_ := Aside0.mk (blk_drew BK423.out)
        have n2_ := Aside0.mk (below_drew1 HB.out)
        clear BK422
        clear BK423
        clear HB
        have BK422 := n0_
        have BK423 := n1_
        have HB := n2_
        clear n0_ n1_ n2_
        refine start_ (n := 25) (S := fun w' => w'.cell? ⟨gb422, 0, none⟩ = some (.int .u64 t424) ∧ w'.cell? ⟨gb422, 1, none⟩ = some (.int .u64 t425) ∧ w'.cell? ⟨gb423, 0, none⟩ = some (.int .u64 t426) ∧ w'.cell? ⟨gb423, 1, none⟩ = some (.int .u64 t427)) (ds := []) #[false, false, false, false, false, false, false, false, false, false, false, false, false, false, false, false, false, false, false, false, false, false, false, false, false] (by kernel_rfl) rfl rfl ⟨(blk_cell BK422.out 0).trans rfl, (blk_cell BK422.out 1).trans rfl, (blk_cell BK423.out 0).trans rfl, (blk_cell BK423.out 1).trans rfl⟩ (fun hHeld => ?_); refine with_tabW lockgatelaw03_TnumBits.tab3 lockgatelaw03_TnumBits.bits3 (fun HT_ HW_ => ?_)
        generalize w35.drew = w36 at BK422 BK423 HB hHeld ⊢
        refine take_ (i := 0) (N := some 13) (v := ?_) (a' := ?_) #[true, false, false, false, false, false, false, false, false, false, false, false, false, false, false, false, false, false, false, false, false, false, false, false, false] rfl rfl (take_ofW HT_.out HW_.out (by kernel_rfl)) (fun _ _ _ h => h) (Or.inl ⟨by rfl, ?_⟩) hHeld ?_ ?_
        rotate_left
        · rintro w' ⟨s0, s1, s2, s3⟩
          go_simp
          with_reducible rfl
        rotate_left
        · simp only [Act.put, List.setIfInBounds_toArray, List.set_cons_zero, List.set_cons_succ, i64_w, i32_w]
          rfl
        refine take_ (i := 1) (N := some 14) (v := ?_) (a' := ?_) #[true, true, false, false, false, false, false, false, false, false, false, false, false, false, false, false, false, false, false, false, false, false, false, false, false] rfl rfl (take_ofW HT_.out HW_.out (by kernel_rfl)) (fun _ _ _ h => h) (Or.inl ⟨by rfl, ?_⟩) hHeld ?_ ?_
        rotate_left
        · rintro w' ⟨s0, s1, s2, s3⟩
          go_simp
          with_reducible rfl
        rotate_left
        · simp only [Act.put, List.setIfInBounds_toArray, List.set_cons_zero, List.set_cons_succ, i64_w, i32_w]
          rfl
        refine take_ (i := 3) (N := some 16) (v := ?_) (a' := ?_) #[true, true, false, true, false, false, false, false, false, false, false, false, false, false, false, false, false, false, false, false, false, false, false, false, false] rfl rfl (take_ofW HT_.out HW_.out (by kernel_rfl)) (fun _ _ _ h => h) (Or.inl ⟨by rfl, ?_⟩) hHeld ?_ ?_
        rotate_left
        · rintro w' ⟨s0, s1, s2, s3⟩
          go_simp
          with_reducible rfl
        rotate_left
        · simp only [Act.put, List.setIfInBounds_toArray, List.set_cons_zero, List.set_cons_succ, i64_w, i32_w]
          rfl
        refine take_ (i := 4) (N := some 17) (v := ?_) (a' := ?_) #[true, true, false, true, true, false, false, false, false, false, false, false, false, false, false, false, false, false, false, false, false, false, false, false, false] rfl rfl (take_ofW HT_.out HW_.out (by kernel_rfl)) (fun _ _ _ h => h) (Or.inl ⟨by rfl, ?_⟩) hHeld ?_ ?_
        rotate_left
        · rintro w' ⟨s0, s1, s2, s3⟩
          go_simp
          with_reducible rfl
        rotate_left
        · simp only [Act.put, List.setIfInBounds_toArray, List.set_cons_zero, List.set_cons_succ, i64_w, i32_w]
          rfl
        refine one_ (i := 2) (N := some 15) #[true, true, true, true, true, false, false, false, false, false, false, false, false, false, false, false, false, false, false, false, false, false, false, false, false] rfl rfl (one_of HT_.out (by kernel_rfl)) (by decide) (fun K hK => ?_)
        refine goes_ Try.func33 (by kernel_rfl) rfl #[.agg #[.int .u64 t424, .int .u64 t425], .agg #[.int .u64 t426, .int .u64 t427]] (by rfl) rfl rfl (by (try simp only [List.map_toArray, List.map_cons, List.map_nil]); first | done | rfl) ?_
        with_reducible refine (tnum_And.calls t424 t425 t426 t427 t428 t429 _ A17.out).mono ?_
        rintro e w37 ⟨rfl, hb⟩
        refine ⟨_, rfl, ?_⟩
        have n0_ := Aside0.mk (blk_below (g := gb422) (o := .cells #[.int .u64 t424, .int .u64 t425] 24 (0, 0)) (by (with_reducible repeat (first | apply bN_19 | apply bD_19 | apply bA_19)); exact BK422.out) hb)
        have n1_ := Aside0.mk (blk_below (g := gb423) (o := .cells #[.int .u64 t426, .int .u64 t427] 24 (0, 0)) (by (with_reducible repeat (first | apply bN_19 | apply bD_19 | apply bA_19)); exact BK423.out) hb)
        have n2_ := Aside0.mk (below_step (by repeat (first | (with_reducible first | exact HB.out | apply lA_19 | apply lN_19 | apply lD_19 | refine lS_19 ?_ GE422.out | refine lS_19 ?_ GE423.out) | exact HB.out)) hb)
        clear BK422
        clear BK423
        clear HB
        have BK422 := n0_
        have BK423 := n1_
        have HB := n2_
        clear n0_ n1_ n2_
        (try clear hb)
        (try clear hb2)
        (try clear hk)
        (try clear hi)
        refine hK.out _ _ ⟨(blk_cell BK422.out 0).trans rfl, (blk_cell BK422.out 1).trans rfl, (blk_cell BK423.out 0).trans rfl, (blk_cell BK423.out 1).trans rfl⟩ (fun hHeld => ?_)
        clear hK K
        refine norm_ (a' := ?_) ?_ ?_
        rotate_left
        · show Act.put _ (some 15) _ = _
          simp only [Act.put, List.setIfInBounds_toArray, List.set_cons_zero, List.set_cons_succ, i64_w, i32_w]
          rfl
        refine one_ (i := 5) (N := some 18) #[true, true, true, true, true, true, false, false, false, false, false, false, false, false, false, false, false, false, false, false, false, false, false, false, false] rfl rfl (one_of HT_.out (by kernel_rfl)) (by decide) (fun K hK => ?_)
        refine goes_ Try.func38 (by kernel_rfl) rfl #[.agg #[.int .u64 t424, .int .u64 t425], .agg #[.int .u64 t426, .int .u64 t427]] (by rfl) rfl rfl (by (try simp only [List.map_toArray, List.map_cons, List.map_nil]); first | done | rfl) ?_
        with_reducible refine (lockgateref03_And.calls t424 t425 t426 t427 t430 t431 _ A18.out).mono ?_
        rintro e w38 ⟨rfl, hb⟩
        refine ⟨_, rfl, ?_⟩
        have n0_ := Aside0.mk (blk_below (g := gb422) (o := .cells #[.int .u64 t424, .int .u64 t425] 24 (0, 0)) (by (with_reducible repeat (first | apply bN_19 | apply bD_19 | apply bA_19)); exact BK422.out) hb)
        have n1_ := Aside0.mk (blk_below (g := gb423) (o := .cells #[.int .u64 t426, .int .u64 t427] 24 (0, 0)) (by (with_reducible repeat (first | apply bN_19 | apply bD_19 | apply bA_19)); exact BK423.out) hb)
        have n2_ := Aside0.mk (below_step (by repeat (first | (with_reducible first | exact HB.out | apply lA_19 | apply lN_19 | apply lD_19 | refine lS_19 ?_ GE422.out | refine lS_19 ?_ GE423.out) | exact HB.out)) hb)
        clear BK422
        clear BK423
        clear HB
        have BK422 := n0_
        have BK423 := n1_
        have HB := n2_
        clear n0_ n1_ n2_
        (try clear hb)
        (try clear hb2)
        (try clear hk)
        (try clear hi)
        refine hK.out _ _ ⟨(blk_cell BK422.out 0).trans rfl, (blk_cell BK422.out 1).trans rfl, (blk_cell BK423.out 0).trans rfl, (blk_cell BK423.out 1).trans rfl⟩ (fun hHeld => ?_)
        clear hK K
        refine norm_ (a' := ?_) ?_ ?_
        rotate_left
        · show Act.put _ (some 18) _ = _
          simp only [Act.put, List.setIfInBounds_toArray, List.set_cons_zero, List.set_cons_succ, i64_w, i32_w]
          rfl
        refine pure_ (i := 6) (N := some 19) (v := ?_) (a' := ?_) #[true, true, true, true, true, true, true, false, false, false, false, false, false, false, false, false, false, false, false, false, false, false, false, false, false] rfl rfl (any_of HT_.out (by kernel_rfl)) (fun _ _ _ h => h) (Or.inl ⟨by rfl, ?_⟩) ?_ ?_
        rotate_left
        · intro w'
          go_simp
          with_reducible rfl
        rotate_left
        · simp only [Act.put, List.setIfInBounds_toArray, List.set_cons_zero, List.set_cons_succ, i64_w, i32_w]
          rfl
        refine pure_ (i := 7) (N := some 20) (v := ?_) (a' := ?_) #[true, true, true, true, true, true, true, true, false, false, false, false, false, false, false, false, false, false, false, false, false, false, false, false, false] rfl rfl (any_of HT_.out (by kernel_rfl)) (fun _ _ _ h => h) (Or.inl ⟨by rfl, ?_⟩) ?_ ?_
        rotate_left
        · intro w'
          go_simp
          with_reducible rfl
        rotate_left
        · simp only [Act.put, List.setIfInBounds_toArray, List.set_cons_zero, List.set_cons_succ, i64_w, i32_w]
          rfl
        refine take_ (i := 8) (N := some 21) (v := ?_) (a' := ?_) #[true, true, true, true, true, true, true, true, true, false, false, false, false, false, false, false, false, false, false, false, false, false, false, false, false] rfl rfl (take_ofW HT_.out HW_.out (by kernel_rfl)) (fun _ _ _ h => h) (Or.inl ⟨by rfl, ?_⟩) hHeld ?_ ?_
        rotate_left
        · rintro w' ⟨s0, s1, s2, s3⟩
          go_simp
          with_reducible rfl
        rotate_left
        · simp only [Act.put, List.setIfInBounds_toArray, List.set_cons_zero, List.set_cons_succ, i64_w, i32_w]
          rfl
        refine take_ (i := 9) (N := some 22) (v := ?_) (a' := ?_) #[true, true, true, true, true, true, true, true, true, true, false, false, false, false, false, false, false, false, false, false, false, false, false, false, false] rfl rfl (take_ofW HT_.out HW_.out (by kernel_rfl)) (fun _ _ _ h => h) (Or.inl ⟨by rfl, ?_⟩) hHeld ?_ ?_
        rotate_left
        · rintro w' ⟨s0, s1, s2, s3⟩
          go_simp
          with_reducible rfl
        rotate_left
        · simp only [Act.put, List.setIfInBounds_toArray, List.set_cons_zero, List.set_cons_succ, i64_w, i32_w]
          rfl
        refine take_ (i := 11) (N := some 24) (v := ?_) (a' := ?_) #[true, true, true, true, true, true, true, true, true, true, false, true, false, false, false, false, false, false, false, false, false, false, false, false, false] rfl rfl (take_ofW HT_.out HW_.out (by kernel_rfl)) (fun _ _ _ h => h) (Or.inl ⟨by rfl, ?_⟩) hHeld ?_ ?_
        rotate_left
        · rintro w' ⟨s0, s1, s2, s3⟩
          go_simp
          with_reducible rfl
        rotate_left
        · simp only [Act.put, List.setIfInBounds_toArray, List.set_cons_zero, List.set_cons_succ, i64_w, i32_w]
          rfl
        refine take_ (i := 12) (N := some 25) (v := ?_) (a' := ?_) #[true, true, true, true, true, true, true, true, true, true, false, true, true, false, false, false, false, false, false, false, false, false, false, false, false] rfl rfl (take_ofW HT_.out HW_.out (by kernel_rfl)) (fun _ _ _ h => h) (Or.inl ⟨by rfl, ?_⟩) hHeld ?_ ?_
        rotate_left
        · rintro w' ⟨s0, s1, s2, s3⟩
          go_simp
          with_reducible rfl
        rotate_left
        · simp only [Act.put, List.setIfInBounds_toArray, List.set_cons_zero, List.set_cons_succ, i64_w, i32_w]
          rfl
        refine one_ (i := 10) (N := some 23) #[true, true, true, true, true, true, true, true, true, true, true, true, true, false, false, false, false, false, false, false, false, false, false, false, false] rfl rfl (one_of HT_.out (by kernel_rfl)) (by decide) (fun K hK => ?_)
        refine goes_ Try.func34 (by kernel_rfl) rfl #[.agg #[.int .u64 t424, .int .u64 t425], .agg #[.int .u64 t426, .int .u64 t427]] (by rfl) rfl rfl (by (try simp only [List.map_toArray, List.map_cons, List.map_nil]); first | done | rfl) ?_
        with_reducible refine (tnum_Or.calls t424 t425 t426 t427 t432 t433 _ A24.out).mono ?_
        rintro e w39 ⟨rfl, hb⟩
        refine ⟨_, rfl, ?_⟩
        have n0_ := Aside0.mk (blk_below (g := gb422) (o := .cells #[.int .u64 t424, .int .u64 t425] 24 (0, 0)) (by (with_reducible repeat (first | apply bN_19 | apply bD_19 | apply bA_19)); exact BK422.out) hb)
        have n1_ := Aside0.mk (blk_below (g := gb423) (o := .cells #[.int .u64 t426, .int .u64 t427] 24 (0, 0)) (by (with_reducible repeat (first | apply bN_19 | apply bD_19 | apply bA_19)); exact BK423.out) hb)
        have n2_ := Aside0.mk (below_step (by repeat (first | (with_reducible first | exact HB.out | apply lA_19 | apply lN_19 | apply lD_19 | refine lS_19 ?_ GE422.out | refine lS_19 ?_ GE423.out) | exact HB.out)) hb)
        clear BK422
        clear BK423
        clear HB
        have BK422 := n0_
        have BK423 := n1_
        have HB := n2_
        clear n0_ n1_ n2_
        (try clear hb)
        (try clear hb2)
        (try clear hk)
        (try clear hi)
        refine hK.out _ _ ⟨(blk_cell BK422.out 0).trans rfl, (blk_cell BK422.out 1).trans rfl, (blk_cell BK423.out 0).trans rfl, (blk_cell BK423.out 1).trans rfl⟩ (fun hHeld => ?_)
        clear hK K
        refine norm_ (a' := ?_) ?_ ?_
        rotate_left
        · show Act.put _ (some 23) _ = _
          simp only [Act.put, List.setIfInBounds_toArray, List.set_cons_zero, List.set_cons_succ, i64_w, i32_w]
          rfl
        refine one_ (i := 13) (N := some 26) #[true, true, true, true, true, true, true, true, true, true, true, true, true, true, false, false, false, false, false, false, false, false, false, false, false] rfl rfl (one_of HT_.out (by kernel_rfl)) (by decide) (fun K hK => ?_)
        refine goes_ Try.func39 (by kernel_rfl) rfl #[.agg #[.int .u64 t424, .int .u64 t425], .agg #[.int .u64 t426, .int .u64 t427]] (by rfl) rfl rfl (by (try simp only [List.map_toArray, List.map_cons, List.map_nil]); first | done | rfl) ?_
        with_reducible refine (lockgateref03_Or.calls t424 t425 t426 t427 t434 t435 _ A25.out).mono ?_
        rintro e w40 ⟨rfl, hb⟩
        refine ⟨_, rfl, ?_⟩
        have n0_ := Aside0.mk (blk_below (g := gb422) (o := .cells #[.int .u64 t424, .int .u64 t425] 24 (0, 0)) (by (with_reducible repeat (first | apply bN_19 | apply bD_19 | apply bA_19)); exact BK422.out) hb)
        have n1_ := Aside0.mk (blk_below (g := gb423) (o := .cells #[.int .u64 t426, .int .u64 t427] 24 (0, 0)) (by (with_reducible repeat (first | apply bN_19 | apply bD_19 | apply bA_19)); exact BK423.out) hb)
        have n2_ := Aside0.mk (below_step (by repeat (first | (with_reducible first | exact HB.out | apply lA_19 | apply lN_19 | apply lD_19 | refine lS_19 ?_ GE422.out | refine lS_19 ?_ GE423.out) | exact HB.out)) hb)
        clear BK422
        clear BK423
        clear HB
        have BK422 := n0_
        have BK423 := n1_
        have HB := n2_
        clear n0_ n1_ n2_
        (try clear hb)
        (try clear hb2)
        (try clear hk)
        (try clear hi)
        refine hK.out _ _ ⟨(blk_cell BK422.out 0).trans rfl, (blk_cell BK422.out 1).trans rfl, (blk_cell BK423.out 0).trans rfl, (blk_cell BK423.out 1).trans rfl⟩ (fun hHeld => ?_)
        clear hK K
        refine norm_ (a' := ?_) ?_ ?_
        rotate_left
        · show Act.put _ (some 26) _ = _
          simp only [Act.put, List.setIfInBounds_toArray, List.set_cons_zero, List.set_cons_succ, i64_w, i32_w]
          rfl
        refine pure_ (i := 14) (N := some 27) (v := ?_) (a' := ?_) #[true, true, true, true, true, true, true, true, true, true, true, true, true, true, true, false, false, false, false, false, false, false, false, false, false] rfl rfl (any_of HT_.out (by kernel_rfl)) (fun _ _ _ h => h) (Or.inl ⟨by rfl, ?_⟩) ?_ ?_
        rotate_left
        · intro w'
          go_simp
          with_reducible rfl
        rotate_left
        · simp only [Act.put, List.setIfInBounds_toArray, List.set_cons_zero, List.set_cons_succ, i64_w, i32_w]
          rfl
        refine pure_ (i := 15) (N := some 28) (v := ?_) (a' := ?_) #[true, true, true, true, true, true, true, true, true, true, true, true, true, true, true, true, false, false, false, false, false, false, false, false, false] rfl rfl (any_of HT_.out (by kernel_rfl)) (fun _ _ _ h => h) (Or.inl ⟨by rfl, ?_⟩) ?_ ?_
        rotate_left
        · intro w'
          go_simp
          with_reducible rfl
        rotate_left
        · simp only [Act.put, List.setIfInBounds_toArray, List.set_cons_zero, List.set_cons_succ, i64_w, i32_w]
          rfl
        refine pure_ (i := 16) (N := some 29) (v := ?_) (a' := ?_) #[true, true, true, true, true, true, true, true, true, true, true, true, true, true, true, true, true, false, false, false, false, false, false, false, false] rfl rfl (any_of HT_.out (by kernel_rfl)) (fun _ _ _ h => h) (Or.inl ⟨by rfl, ?_⟩) ?_ ?_
        rotate_left
        · intro w'
          go_simp
          with_reducible rfl
        rotate_left
        · simp only [Act.put, List.setIfInBounds_toArray, List.set_cons_zero, List.set_cons_succ, i64_w, i32_w]
          rfl
        refine take_ (i := 17) (N := some 30) (v := ?_) (a' := ?_) #[true, true, true, true, true, true, true, true, true, true, true, true, true, true, true, true, true, true, false, false, false, false, false, false, false] rfl rfl (take_ofW HT_.out HW_.out (by kernel_rfl)) (fun _ _ _ h => h) (Or.inl ⟨by rfl, ?_⟩) hHeld ?_ ?_
        rotate_left
        · rintro w' ⟨s0, s1, s2, s3⟩
          go_simp
          with_reducible rfl
        rotate_left
        · simp only [Act.put, List.setIfInBounds_toArray, List.set_cons_zero, List.set_cons_succ, i64_w, i32_w]
          rfl
        refine take_ (i := 18) (N := some 31) (v := ?_) (a' := ?_) #[true, true, true, true, true, true, true, true, true, true, true, true, true, true, true, true, true, true, true, false, false, false, false, false, false] rfl rfl (take_ofW HT_.out HW_.out (by kernel_rfl)) (fun _ _ _ h => h) (Or.inl ⟨by rfl, ?_⟩) hHeld ?_ ?_
        rotate_left
        · rintro w' ⟨s0, s1, s2, s3⟩
          go_simp
          with_reducible rfl
        rotate_left
        · simp only [Act.put, List.setIfInBounds_toArray, List.set_cons_zero, List.set_cons_succ, i64_w, i32_w]
          rfl
        refine take_ (i := 20) (N := some 33) (v := ?_) (a' := ?_) #[true, true, true, true, true, true, true, true, true, true, true, true, true, true, true, true, true, true, true, false, true, false, false, false, false] rfl rfl (take_ofW HT_.out HW_.out (by kernel_rfl)) (fun _ _ _ h => h) (Or.inl ⟨by rfl, ?_⟩) hHeld ?_ ?_
        rotate_left
        · rintro w' ⟨s0, s1, s2, s3⟩
          go_simp
          with_reducible rfl
        rotate_left
        · simp only [Act.put, List.setIfInBounds_toArray, List.set_cons_zero, List.set_cons_succ, i64_w, i32_w]
          rfl
        refine take_ (i := 21) (N := some 34) (v := ?_) (a' := ?_) #[true, true, true, true, true, true, true, true, true, true, true, true, true, true, true, true, true, true, true, false, true, true, false, false, false] rfl rfl (take_ofW HT_.out HW_.out (by kernel_rfl)) (fun _ _ _ h => h) (Or.inl ⟨by rfl, ?_⟩) hHeld ?_ ?_
        rotate_left
        · rintro w' ⟨s0, s1, s2, s3⟩
          go_simp
          with_reducible rfl
        rotate_left
        · simp only [Act.put, List.setIfInBounds_toArray, List.set_cons_zero, List.set_cons_succ, i64_w, i32_w]
          rfl
        refine one_ (i := 19) (N := some 32) #[true, true, true, true, true, true, true, true, true, true, true, true, true, true, true, true, true, true, true, true, true, true, false, false, false] rfl rfl (one_of HT_.out (by kernel_rfl)) (by decide) (fun K hK => ?_)
        refine goes_ Try.func35 (by kernel_rfl) rfl #[.agg #[.int .u64 t424, .int .u64 t425], .agg #[.int .u64 t426, .int .u64 t427]] (by rfl) rfl rfl (by (try simp only [List.map_toArray, List.map_cons, List.map_nil]); first | done | rfl) ?_
        with_reducible refine (tnum_Xor.calls t424 t425 t426 t427 t436 t437 _ A33.out).mono ?_
        rintro e w41 ⟨rfl, hb⟩
        refine ⟨_, rfl, ?_⟩
        have n0_ := Aside0.mk (blk_below (g := gb422) (o := .cells #[.int .u64 t424, .int .u64 t425] 24 (0, 0)) (by (with_reducible repeat (first | apply bN_19 | apply bD_19 | apply bA_19)); exact BK422.out) hb)
        have n1_ := Aside0.mk (blk_below (g := gb423) (o := .cells #[.int .u64 t426, .int .u64 t427] 24 (0, 0)) (by (with_reducible repeat (first | apply bN_19 | apply bD_19 | apply bA_19)); exact BK423.out) hb)
        have n2_ := Aside0.mk (below_step (by repeat (first | (with_reducible first | exact HB.out | apply lA_19 | apply lN_19 | apply lD_19 | refine lS_19 ?_ GE422.out | refine lS_19 ?_ GE423.out) | exact HB.out)) hb)
        clear BK422
        clear BK423
        clear HB
        have BK422 := n0_
        have BK423 := n1_
        have HB := n2_
        clear n0_ n1_ n2_
        (try clear hb)
        (try clear hb2)
        (try clear hk)
        (try clear hi)
        refine hK.out _ _ ⟨(blk_cell BK422.out 0).trans rfl, (blk_cell BK422.out 1).trans rfl, (blk_cell BK423.out 0).trans rfl, (blk_cell BK423.out 1).trans rfl⟩ (fun hHeld => ?_)
        clear hK K
        refine norm_ (a' := ?_) ?_ ?_
        rotate_left
        · show Act.put _ (some 32) _ = _
          simp only [Act.put, List.setIfInBounds_toArray, List.set_cons_zero, List.set_cons_succ, i64_w, i32_w]
          rfl
        refine one_ (i := 22) (N := some 35) #[true, true, true, true, true, true, true, true, true, true, true, true, true, true, true, true, true, true, true, true, true, true, true, false, false] rfl rfl (one_of HT_.out (by kernel_rfl)) (by decide) (fun K hK => ?_)
        refine goes_ Try.func40 (by kernel_rfl) rfl #[.agg #[.int .u64 t424, .int .u64 t425], .agg #[.int .u64 t426, .int .u64 t427]] (by rfl) rfl rfl (by (try simp only [List.map_toArray, List.map_cons, List.map_nil]); first | done | rfl) ?_
        with_reducible refine (lockgateref03_Xor.calls t424 t425 t426 t427 t438 t439 _ A34.out).mono ?_
        rintro e w42 ⟨rfl, hb⟩
        refine ⟨_, rfl, ?_⟩
        have n0_ := Aside0.mk (blk_below (g := gb422) (o := .cells #[.int .u64 t424, .int .u64 t425] 24 (0, 0)) (by (with_reducible repeat (first | apply bN_19 | apply bD_19 | apply bA_19)); exact BK422.out) hb)
        have n1_ := Aside0.mk (blk_below (g := gb423) (o := .cells #[.int .u64 t426, .int .u64 t427] 24 (0, 0)) (by (with_reducible repeat (first | apply bN_19 | apply bD_19 | apply bA_19)); exact BK423.out) hb)
        have n2_ := Aside0.mk (below_step (by repeat (first | (with_reducible first | exact HB.out | apply lA_19 | apply lN_19 | apply lD_19 | refine lS_19 ?_ GE422.out | refine lS_19 ?_ GE423.out) | exact HB.out)) hb)
        clear BK422
        clear BK423
        clear HB
        have BK422 := n0_
        have BK423 := n1_
        have HB := n2_
        clear n0_ n1_ n2_
        (try clear hb)
        (try clear hb2)
        (try clear hk)
        (try clear hi)
        refine hK.out _ _ ⟨(blk_cell BK422.out 0).trans rfl, (blk_cell BK422.out 1).trans rfl, (blk_cell BK423.out 0).trans rfl, (blk_cell BK423.out 1).trans rfl⟩ (fun hHeld => ?_)
        clear hK K
        refine norm_ (a' := ?_) ?_ ?_
        rotate_left
        · show Act.put _ (some 35) _ = _
          simp only [Act.put, List.setIfInBounds_toArray, List.set_cons_zero, List.set_cons_succ, i64_w, i32_w]
          rfl
        refine pure_ (i := 23) (N := some 36) (v := ?_) (a' := ?_) #[true, true, true, true, true, true, true, true, true, true, true, true, true, true, true, true, true, true, true, true, true, true, true, true, false] rfl rfl (any_of HT_.out (by kernel_rfl)) (fun _ _ _ h => h) (Or.inl ⟨by rfl, ?_⟩) ?_ ?_
        rotate_left
        · intro w'
          go_simp
          with_reducible rfl
        rotate_left
        · simp only [Act.put, List.setIfInBounds_toArray, List.set_cons_zero, List.set_cons_succ, i64_w, i32_w]
          rfl
        refine pure_ (i := 24) (N := some 37) (v := ?_) (a' := ?_) #[true, true, true, true, true, true, true, true, true, true, true, true, true, true, true, true, true, true, true, true, true, true, true, true, true] rfl rfl (any_of HT_.out (by kernel_rfl)) (fun _ _ _ h => h) (Or.inl ⟨by rfl, ?_⟩) ?_ ?_
        rotate_left
        · intro w'
          go_simp
          with_reducible rfl
        rotate_left
        · simp only [Act.put, List.setIfInBounds_toArray, List.set_cons_zero, List.set_cons_succ, i64_w, i32_w]
          rfl
        refine done_ (done_of HT_.out (by kernel_rfl)) ?_
        try go_wp2
        go_meet
        case rel => exact ⟨_, ((!(t436 == t438) || (!(t437 == t439)))), (by first | rfl | (simp; done) | (simp [*]; done)), H', ⟨by first | omega | exact Nat.le_refl _⟩, ⟨by (with_reducible repeat (first | apply bN_19 | apply bD_19 | apply bA_19)); exact BK422.out⟩, ⟨by (with_reducible repeat (first | apply bN_19 | apply bD_19 | apply bA_19)); exact BK423.out⟩, ⟨by repeat (first | (with_reducible first | exact HB.out | apply lA_19 | apply lN_19 | apply lD_19 | refine lS_19 ?_ GE422.out | refine lS_19 ?_ GE423.out) | exact HB.out)⟩⟩
  case rest =>
    clear HC7
    try clear c2
    try clear p2
    try clear c3
    try clear c4
    try clear c26
    try clear c26b0
    try clear c33
    try clear c34
    try clear c35
    try clear c38
    try clear c39
    try clear c40
    obtain ⟨kq, x37_6, rfl, HA, HJ6, BK422, BK423, HB⟩ := hcut
    cases kq with
    | zero => exact absurd HA.out (by simp [lockgatelaw03_TnumBits.j0])
    | succ kj6 =>
      have H := HA.out
      clear HA
      simp only [lockgatelaw03_TnumBits.j0] at H
      by_cases c43 : x37_6 = true
      · subst c43
        have H1 : (some false) = some r := by rw [if_pos rfl] at H; exact H
        clear H
        have H := H1
        clear H1
        exact absurd ((Option.some.inj H).trans HRT.out) (by decide)
      · replace c43 := Bool.eq_false_iff.mpr c43
        subst c43
        have H1 : ((tnum_Lsh.f t424 t425 a2).bind fun bt440 => ((lockgateref03_Lsh.f t424 t425 a2).bind fun bt442 => (if (bt440.1 == bt442.1 && (bt440.2 == bt442.2)) = true then ((tnum_Rsh.f t424 t425 a2).bind fun bt444 => ((lockgateref03_Rsh.f t424 t425 a2).bind fun bt446 => (if (bt444.1 == bt446.1 && (bt444.2 == bt446.2)) = true then ((tnum_Arsh.f t424 t425 a2 a3).bind fun bt448 => ((lockgateref03_Arsh.f kj6 t424 t425 a2 a3).bind fun bt450 => (if (bt448.1 == bt450.1 && (bt448.2 == bt450.2)) = true then ((tnum_Cut.f t424 t425 a3).bind fun bt452 => ((lockgateref03_Cut.f t424 t425 a3).bind fun bt454 => (if (bt452.1 == bt454.1 && (bt452.2 == bt454.2)) = true then ((lockgatelaw03_known.f kj6).bind fun t456 => (some t456)) else (some false)))) else (some false)))) else (some false)))) else (some false)))) = some r := by rw [if_neg (show ¬ (false = true) by decide)] at H; exact H
        clear H
        have H := H1
        clear H1
        replace H := Option.bind_eq_some_iff.mp H
        obtain ⟨⟨t440, t441⟩, A440, H⟩ := H
        replace H : ((lockgateref03_Lsh.f t424 t425 a2).bind fun bt442 => (if (t440 == bt442.1 && (t441 == bt442.2)) = true then ((tnum_Rsh.f t424 t425 a2).bind fun bt444 => ((lockgateref03_Rsh.f t424 t425 a2).bind fun bt446 => (if (bt444.1 == bt446.1 && (bt444.2 == bt446.2)) = true then ((tnum_Arsh.f t424 t425 a2 a3).bind fun bt448 => ((lockgateref03_Arsh.f kj6 t424 t425 a2 a3).bind fun bt450 => (if (bt448.1 == bt450.1 && (bt448.2 == bt450.2)) = true then ((tnum_Cut.f t424 t425 a3).bind fun bt452 => ((lockgateref03_Cut.f t424 t425 a3).bind fun bt454 => (if (bt452.1 == bt454.1 && (bt452.2 == bt454.2)) = true then ((lockgatelaw03_known.f kj6).bind fun t456 => (some t456)) else (some false)))) else (some false)))) else (some false)))) else (some false))) = some r := H
        have A44 := Aside0.mk A440
        clear A440
        replace H := Option.bind_eq_some_iff.mp H
        obtain ⟨⟨t442, t443⟩, A450, H⟩ := H
        replace H : (if (t440 == t442 && (t441 == t443)) = true then ((tnum_Rsh.f t424 t425 a2).bind fun bt444 => ((lockgateref03_Rsh.f t424 t425 a2).bind fun bt446 => (if (bt444.1 == bt446.1 && (bt444.2 == bt446.2)) = true then ((tnum_Arsh.f t424 t425 a2 a3).bind fun bt448 => ((lockgateref03_Arsh.f kj6 t424 t425 a2 a3).bind fun bt450 => (if (bt448.1 == bt450.1 && (bt448.2 == bt450.2)) = true then ((tnum_Cut.f t424 t425 a3).bind fun bt452 => ((lockgateref03_Cut.f t424 t425 a3).bind fun bt454 => (if (bt452.1 == bt454.1 && (bt452.2 == bt454.2)) = true then ((lockgatelaw03_known.f kj6).bind fun t456 => (some t456)) else (some false)))) else (some false)))) else (some false)))) else (some false)) = some r := H
        have A45 := Aside0.mk A450
        clear A450
        by_cases c46 : (t440 == t442 && (t441 == t443)) = true
        · rw [if_pos c46] at H
          have c46b0 : (t440 == t442 && (t441 == t443)) = true := c46
          (try (have c46b1 : decide (t440 = t442 && (t441 == t443)) = true := by simpa using c46))
          (try (have c46b2 : (t440 == t442 && (t441 == t443)) = true := by simpa using c46))
          clear c46
          replace H := Option.bind_eq_some_iff.mp H
          obtain ⟨⟨t444, t445⟩, A470, H⟩ := H
          replace H : ((lockgateref03_Rsh.f t424 t425 a2).bind fun bt446 => (if (t444 == bt446.1 && (t445 == bt446.2)) = true then ((tnum_Arsh.f t424 t425 a2 a3).bind fun bt448 => ((lockgateref03_Arsh.f kj6 t424 t425 a2 a3).bind fun bt450 => (if (bt448.1 == bt450.1 && (bt448.2 == bt450.2)) = true then ((tnum_Cut.f t424 t425 a3).bind fun bt452 => ((lockgateref03_Cut.f t424 t425 a3).bind fun bt454 => (if (bt452.1 == bt454.1 && (bt452.2 == bt454.2)) = true then ((lockgatelaw03_known.f kj6).bind fun t456 => (some t456)) else (some false)))) else (some false)))) else (some false))) = some r := H
          have A47 := Aside0.mk A470
          clear A470
          replace H := Option.bind_eq_some_iff.mp H
          obtain ⟨⟨t446, t447⟩, A480, H⟩ := H
          replace H : (if (t444 == t446 && (t445 == t447)) = true then ((tnum_Arsh.f t424 t425 a2 a3).bind fun bt448 => ((lockgateref03_Arsh.f kj6 t424 t425 a2 a3).bind fun bt450 => (if (bt448.1 == bt450.1 && (bt448.2 == bt450.2)) = true then ((tnum_Cut.f t424 t425 a3).bind fun bt452 => ((lockgateref03_Cut.f t424 t425 a3).bind fun bt454 => (if (bt452.1 == bt454.1 && (bt452.2 == bt454.2)) = true then ((lockgatelaw03_known.f kj6).bind fun t456 => (some t456)) else (some false)))) else (some false)))) else (some false)) = some r := H
          have A48 := Aside0.mk A480
          clear A480
          by_cases c49 : (t444 == t446 && (t445 == t447)) = true
          · rw [if_pos c49] at H
            have c49b0 : (t444 == t446 && (t445 == t447)) = true := c49
            (try (have c49b1 : decide (t444 = t446 && (t445 == t447)) = true := by simpa using c49))
            (try (have c49b2 : (t444 == t446 && (t445 == t447)) = true := by simpa using c49))
            clear c49
            replace H := Option.bind_eq_some_iff.mp H
            obtain ⟨⟨t448, t449⟩, A500, H⟩ := H
            replace H : ((lockgateref03_Arsh.f kj6 t424 t425 a2 a3).bind fun bt450 => (if (t448 == bt450.1 && (t449 == bt450.2)) = true then ((tnum_Cut.f t424 t425 a3).bind fun bt452 => ((lockgateref03_Cut.f t424 t425 a3).bind fun bt454 => (if (bt452.1 == bt454.1 && (bt452.2 == bt454.2)) = true then ((lockgatelaw03_known.f kj6).bind fun t456 => (some t456)) else (some false)))) else (some false))) = some r := H
            have A50 := Aside0.mk A500
            clear A500
            replace H := Option.bind_eq_some_iff.mp H
            obtain ⟨⟨t450, t451⟩, A510, H⟩ := H
            replace H : (if (t448 == t450 && (t449 == t451)) = true then ((tnum_Cut.f t424 t425 a3).bind fun bt452 => ((lockgateref03_Cut.f t424 t425 a3).bind fun bt454 => (if (bt452.1 == bt454.1 && (bt452.2 == bt454.2)) = true then ((lockgatelaw03_known.f kj6).bind fun t456 => (some t456)) else (some false)))) else (some false)) = some r := H
            have A51 := Aside0.mk A510
            clear A510
            by_cases c52 : (t448 == t450 && (t449 == t451)) = true
            · rw [if_pos c52] at H
              have c52b0 : (t448 == t450 && (t449 == t451)) = true := c52
              (try (have c52b1 : decide (t448 = t450 && (t449 == t451)) = true := by simpa using c52))
              (try (have c52b2 : (t448 == t450 && (t449 == t451)) = true := by simpa using c52))
              clear c52
              replace H := Option.bind_eq_some_iff.mp H
              obtain ⟨⟨t452, t453⟩, A530, H⟩ := H
              replace H : ((lockgateref03_Cut.f t424 t425 a3).bind fun bt454 => (if (t452 == bt454.1 && (t453 == bt454.2)) = true then ((lockgatelaw03_known.f kj6).bind fun t456 => (some t456)) else (some false))) = some r := H
              have A53 := Aside0.mk A530
              clear A530
              replace H := Option.bind_eq_some_iff.mp H
              obtain ⟨⟨t454, t455⟩, A540, H⟩ := H
              replace H : (if (t452 == t454 && (t453 == t455)) = true then ((lockgatelaw03_known.f kj6).bind fun t456 => (some t456)) else (some false)) = some r := H
              have A54 := Aside0.mk A540
              clear A540
              by_cases c55 : (t452 == t454 && (t453 == t455)) = true
              · rw [if_pos c55] at H
                have c55b0 : (t452 == t454 && (t453 == t455)) = true := c55
                (try (have c55b1 : decide (t452 = t454 && (t453 == t455)) = true := by simpa using c55))
                (try (have c55b2 : (t452 == t454 && (t453 == t455)) = true := by simpa using c55))
                clear c55
                replace H := Option.bind_eq_some_iff.mp H
                obtain ⟨t456, A560, H⟩ := H
                replace H : (some t456) = some r := H
                have A56 := Aside0.mk A560
                clear A560
                obtain rfl := Option.some.inj H
                try go_wp2
                have n0_ := Aside0.mk (blk_drew BK422.out)
                have n1_ := Aside0.mk (blk_drew BK423.out)
                have n2_ := Aside0.mk (below_drew1 HB.out)
                clear BK422
                clear BK423
                clear HB
                have BK422 := n0_
                have BK423 := n1_
                have HB := n2_
                clear n0_ n1_ n2_
                refine start_ (n := 40) (S := fun w' => w'.cell? ⟨gb422, 0, none⟩ = some (.int .u64 t424) ∧ w'.cell? ⟨gb422, 1, none⟩ = some (.int .u64 t425)) (ds := []) #[false, false, false, false, false, false, false, false, false, false, false, false, false, false, false, false, false, false, false, false, false, false, false, false, false, false, false, false, false, false, false, false, false, false, false, false, false, false, false, false] (by kernel_rfl) rfl rfl ⟨(blk_cell BK422.out 0).trans rfl, (blk_cell BK422.out 1).trans rfl⟩ (fun hHeld => ?_); refine with_tabW lockgatelaw03_TnumBits.tab5 lockgatelaw03_TnumBits.bits5 (fun HT_ HW_ => ?_)
                generalize wc.drew = w57 at BK422 BK423 HB hHeld ⊢
                refine pure_ (i := 1) (N := some 39) (v := ?_) (a' := ?_) #[false, true, false, false, false, false, false, false, false, false, false, false, false, false, false, false, false, false, false, false, false, false, false, false, false, false, false, false, false, false, false, false, false, false, false, false, false, false, false, false] rfl rfl (any_of HT_.out (by kernel_rfl)) (fun _ _ _ h => h) (Or.inl ⟨by rfl, ?_⟩) ?_ ?_
                rotate_left
                · intro w'
                  go_simp
                  with_reducible rfl
                rotate_left
                · simp only [Act.put, List.setIfInBounds_toArray, List.set_cons_zero, List.set_cons_succ, i64_w, i32_w]
                  rfl
                refine pure_ (i := 4) (N := some 42) (v := ?_) (a' := ?_) #[false, true, false, false, true, false, false, false, false, false, false, false, false, false, false, false, false, false, false, false, false, false, false, false, false, false, false, false, false, false, false, false, false, false, false, false, false, false, false, false] rfl rfl (any_of HT_.out (by kernel_rfl)) (fun _ _ _ h => h) (Or.inl ⟨by rfl, ?_⟩) ?_ ?_
                rotate_left
                · intro w'
                  go_simp
                  with_reducible rfl
                rotate_left
                · simp only [Act.put, List.setIfInBounds_toArray, List.set_cons_zero, List.set_cons_succ, i64_w, i32_w]
                  rfl
                refine take_ (i := 0) (N := some 38) (v := ?_) (a' := ?_) #[true, true, false, false, true, false, false, false, false, false, false, false, false, false, false, false, false, false, false, false, false, false, false, false, false, false, false, false, false, false, false, false, false, false, false, false, false, false, false, false] rfl rfl (take_ofW HT_.out HW_.out (by kernel_rfl)) (fun _ _ _ h => h) (Or.inl ⟨by rfl, ?_⟩) hHeld ?_ ?_
                rotate_left
                · rintro w' ⟨s0, s1⟩
                  go_simp
                  with_reducible rfl
                rotate_left
                · simp only [Act.put, List.setIfInBounds_toArray, List.set_cons_zero, List.set_cons_succ, i64_w, i32_w]
                  rfl
                refine take_ (i := 3) (N := some 41) (v := ?_) (a' := ?_) #[true, true, false, true, true, false, false, false, false, false, false, false, false, false, false, false, false, false, false, false, false, false, false, false, false, false, false, false, false, false, false, false, false, false, false, false, false, false, false, false] rfl rfl (take_ofW HT_.out HW_.out (by kernel_rfl)) (fun _ _ _ h => h) (Or.inl ⟨by rfl, ?_⟩) hHeld ?_ ?_
                rotate_left
                · rintro w' ⟨s0, s1⟩
                  go_simp
                  with_reducible rfl
                rotate_left
                · simp only [Act.put, List.setIfInBounds_toArray, List.set_cons_zero, List.set_cons_succ, i64_w, i32_w]
                  rfl
                refine one_ (i := 2) (N := some 40) #[true, true, true, true, true, false, false, false, false, false, false, false, false, false, false, false, false, false, false, false, false, false, false, false, false, false, false, false, false, false, false, false, false, false, false, false, false, false, false, false] rfl rfl (one_of HT_.out (by kernel_rfl)) (by decide) (fun K hK => ?_)
                refine goes_ Try.func36 (by kernel_rfl) rfl #[.agg #[.int .u64 t424, .int .u64 t425], .int .i64 a2] (by rfl) rfl rfl (by (try simp only [List.map_toArray, List.map_cons, List.map_nil]); first | done | rfl) ?_
                with_reducible refine (tnum_Lsh.calls t424 t425 a2 t440 t441 _ A44.out).mono ?_
                rintro e w58 ⟨rfl, hb⟩
                refine ⟨_, rfl, ?_⟩
                have n0_ := Aside0.mk (blk_below (g := gb422) (o := .cells #[.int .u64 t424, .int .u64 t425] 24 (0, 0)) (by (with_reducible repeat (first | apply bN_19 | apply bD_19 | apply bA_19)); exact BK422.out) hb)
                have n1_ := Aside0.mk (blk_below (g := gb423) (o := .cells #[.int .u64 t426, .int .u64 t427] 24 (0, 0)) (by (with_reducible repeat (first | apply bN_19 | apply bD_19 | apply bA_19)); exact BK423.out) hb)
                have n2_ := Aside0.mk (below_step (by repeat (first | (with_reducible first | exact HB.out | apply lA_19 | apply lN_19 | apply lD_19 | refine lS_19 ?_ GE422.out | refine lS_19 ?_ GE423.out) | exact HB.out)) hb)
                clear BK422
                clear BK423
                clear HB
                have BK422 := n0_
                have BK423 := n1_
                have HB := n2_
                clear n0_ n1_ n2_
                (try clear hb)
                (try clear hb2)
                (try clear hk)
                (try clear hi)
                refine hK.out _ _ ⟨(blk_cell BK422.out 0).trans rfl, (blk_cell BK422.out 1).trans rfl⟩ (fun hHeld => ?_)
                clear hK K
                refine norm_ (a' := ?_) ?_ ?_
                rotate_left
                · show Act.put _ (some 40) _ = _
                  simp only [Act.put, List.setIfInBounds_toArray, List.set_cons_zero, List.set_cons_succ, i64_w, i32_w]
                  rfl
                refine one_ (i := 5) (N := some 43) #[true, true, true, true, true, true, false, false, false, false, false, false, false, false, false, false, false, false, false, false, false, false, false, false, false, false, false, false, false, false, false, false, false, false, false, false, false, false, false, false] rfl rfl (one_of HT_.out (by kernel_rfl)) (by decide) (fun K hK => ?_)
                refine goes_ Try.func41 (by kernel_rfl) rfl #[.agg #[.int .u64 t424, .int .u64 t425], .int .i64 a2] (by rfl) rfl rfl (by (try simp only [List.map_toArray, List.map_cons, List.map_nil]); first | done | rfl) ?_
                with_reducible refine (lockgateref03_Lsh.calls t424 t425 a2 t442 t443 _ A45.out).mono ?_
                rintro e w59 ⟨rfl, hb⟩
                refine ⟨_, rfl, ?_⟩
                have n0_ := Aside0.mk (blk_below (g := gb422) (o := .cells #[.int .u64 t424, .int .u64 t425] 24 (0, 0)) (by (with_reducible repeat (first | apply bN_19 | apply bD_19 | apply bA_19)); exact BK422.out) hb)
                have n1_ := Aside0.mk (blk_below (g := gb423) (o := .cells #[.int .u64 t426, .int .u64 t427] 24 (0, 0)) (by (with_reducible repeat (first | apply bN_19 | apply bD_19 | apply bA_19)); exact BK423.out) hb)
                have n2_ := Aside0.mk (below_step (by repeat (first | (with_reducible first | exact HB.out | apply lA_19 | apply lN_19 | apply lD_19 | refine lS_19 ?_ GE422.out | refine lS_19 ?_ GE423.out) | exact HB.out)) hb)
                clear BK422
                clear BK423
                clear HB
                have BK422 := n0_
                have BK423 := n1_
                have HB := n2_
                clear n0_ n1_ n2_
                (try clear hb)
                (try clear hb2)
                (try clear hk)
                (try clear hi)
                refine hK.out _ _ ⟨(blk_cell BK422.out 0).trans rfl, (blk_cell BK422.out 1).trans rfl⟩ (fun hHeld => ?_)
                clear hK K
                refine norm_ (a' := ?_) ?_ ?_
                rotate_left
                · show Act.put _ (some 43) _ = _
                  simp only [Act.put, List.setIfInBounds_toArray, List.set_cons_zero, List.set_cons_succ, i64_w, i32_w]
                  rfl
                refine pure_ (i := 6) (N := some 44) (v := ?_) (a' := ?_) #[true, true, true, true, true, true, true, false, false, false, false, false, false, false, false, false, false, false, false, false, false, false, false, false, false, false, false, false, false, false, false, false, false, false, false, false, false, false, false, false] rfl rfl (any_of HT_.out (by kernel_rfl)) (fun _ _ _ h => h) (Or.inl ⟨by rfl, ?_⟩) ?_ ?_
                rotate_left
                · intro w'
                  go_simp
                  with_reducible rfl
                rotate_left
                · simp only [Act.put, List.setIfInBounds_toArray, List.set_cons_zero, List.set_cons_succ, i64_w, i32_w]
                  rfl
                refine pure_ (i := 7) (N := some 45) (v := ?_) (a' := ?_) #[true, true, true, true, true, true, true, true, false, false, false, false, false, false, false, false, false, false, false, false, false, false, false, false, false, false, false, false, false, false, false, false, false, false, false, false, false, false, false, false] rfl rfl (any_of HT_.out (by kernel_rfl)) (fun _ _ _ h => h) (Or.inl ⟨by rfl, ?_⟩) ?_ ?_
                rotate_left
                · intro w'
                  go_simp
                  with_reducible rfl
                rotate_left
                · simp only [Act.put, List.setIfInBounds_toArray, List.set_cons_zero, List.set_cons_succ, i64_w, i32_w]
                  rfl
                refine pure_ (i := 9) (N := some 47) (v := ?_) (a' := ?_) #[true, true, true, true, true, true, true, true, false, true, false, false, false, false, false, false, false, false, false, false, false, false, false, false, false, false, false, false, false, false, false, false, false, false, false, false, false, false, false, false] rfl rfl (any_of HT_.out (by kernel_rfl)) (fun _ _ _ h => h) (Or.inl ⟨by rfl, ?_⟩) ?_ ?_
                rotate_left
                · intro w'
                  go_simp
                  with_reducible rfl
                rotate_left
                · simp only [Act.put, List.setIfInBounds_toArray, List.set_cons_zero, List.set_cons_succ, i64_w, i32_w]
                  rfl
                refine pure_ (i := 12) (N := some 50) (v := ?_) (a' := ?_) #[true, true, true, true, true, true, true, true, false, true, false, false, true, false, false, false, false, false, false, false, false, false, false, false, false, false, false, false, false, false, false, false, false, false, false, false, false, false, false, false] rfl rfl (any_of HT_.out (by kernel_rfl)) (fun _ _ _ h => h) (Or.inl ⟨by rfl, ?_⟩) ?_ ?_
                rotate_left
                · intro w'
                  go_simp
                  with_reducible rfl
                rotate_left
                · simp only [Act.put, List.setIfInBounds_toArray, List.set_cons_zero, List.set_cons_succ, i64_w, i32_w]
                  rfl
                refine take_ (i := 8) (N := some 46) (v := ?_) (a' := ?_) #[true, true, true, true, true, true, true, true, true, true, false, false, true, false, false, false, false, false, false, false, false, false, false, false, false, false, false, false, false, false, false, false, false, false, false, false, false, false, false, false] rfl rfl (take_ofW HT_.out HW_.out (by kernel_rfl)) (fun _ _ _ h => h) (Or.inl ⟨by rfl, ?_⟩) hHeld ?_ ?_
                rotate_left
                · rintro w' ⟨s0, s1⟩
                  go_simp
                  with_reducible rfl
                rotate_left
                · simp only [Act.put, List.setIfInBounds_toArray, List.set_cons_zero, List.set_cons_succ, i64_w, i32_w]
                  rfl
                refine take_ (i := 11) (N := some 49) (v := ?_) (a' := ?_) #[true, true, true, true, true, true, true, true, true, true, false, true, true, false, false, false, false, false, false, false, false, false, false, false, false, false, false, false, false, false, false, false, false, false, false, false, false, false, false, false] rfl rfl (take_ofW HT_.out HW_.out (by kernel_rfl)) (fun _ _ _ h => h) (Or.inl ⟨by rfl, ?_⟩) hHeld ?_ ?_
                rotate_left
                · rintro w' ⟨s0, s1⟩
                  go_simp
                  with_reducible rfl
                rotate_left
                · simp only [Act.put, List.setIfInBounds_toArray, List.set_cons_zero, List.set_cons_succ, i64_w, i32_w]
                  rfl
                refine one_ (i := 10) (N := some 48) #[true, true, true, true, true, true, true, true, true, true, true, true, true, false, false, false, false, false, false, false, false, false, false, false, false, false, false, false, false, false, false, false, false, false, false, false, false, false, false, false] rfl rfl (one_of HT_.out (by kernel_rfl)) (by decide) (fun K hK => ?_)
                refine goes_ Try.func42 (by kernel_rfl) rfl #[.agg #[.int .u64 t424, .int .u64 t425], .int .i64 a2] (by rfl) rfl rfl (by (try simp only [List.map_toArray, List.map_cons, List.map_nil]); first | done | rfl) ?_
                with_reducible refine (tnum_Rsh.calls t424 t425 a2 t444 t445 _ A47.out).mono ?_
                rintro e w60 ⟨rfl, hb⟩
                refine ⟨_, rfl, ?_⟩
                have n0_ := Aside0.mk (blk_below (g := gb422) (o := .cells #[.int .u64 t424, .int .u64 t425] 24 (0, 0)) (by (with_reducible repeat (first | apply bN_19 | apply bD_19 | apply bA_19)); exact BK422.out) hb)
                have n1_ := Aside0.mk (blk_below (g := gb423) (o := .cells #[.int .u64 t426, .int .u64 t427] 24 (0, 0)) (by (with_reducible repeat (first | apply bN_19 | apply bD_19 | apply bA_19)); exact BK423.out) hb)
                have n2_ := Aside0.mk (below_step (by repeat (first | (with_reducible first | exact HB.out | apply lA_19 | apply lN_19 | apply lD_19 | refine lS_19 ?_ GE422.out | refine lS_19 ?_ GE423.out) | exact HB.out)) hb)
                clear BK422
                clear BK423
                clear HB
                have BK422 := n0_
                have BK423 := n1_
                have HB := n2_
                clear n0_ n1_ n2_
                (try clear hb)
                (try clear hb2)
                (try clear hk)
                (try clear hi)
                refine hK.out _ _ ⟨(blk_cell BK422.out 0).trans rfl, (blk_cell BK422.out 1).trans rfl⟩ (fun hHeld => ?_)
                clear hK K
                refine norm_ (a' := ?_) ?_ ?_
                rotate_left
                · show Act.put _ (some 48) _ = _
                  simp only [Act.put, List.setIfInBounds_toArray, List.set_cons_zero, List.set_cons_succ, i64_w, i32_w]
                  rfl
                refine one_ (i := 13) (N := some 51) #[true, true, true, true, true, true, true, true, true, true, true, true, true, true, false, false, false, false, false, false, false, false, false, false, false, false, false, false, false, false, false, false, false, false, false, false, false, false, false, false] rfl rfl (one_of HT_.out (by kernel_rfl)) (by decide) (fun K hK => ?_)
                refine goes_ Try.func43 (by kernel_rfl) rfl #[.agg #[.int .u64 t424, .int .u64 t425], .int .i64 a2] (by rfl) rfl rfl (by (try simp only [List.map_toArray, List.map_cons, List.map_nil]); first | done | rfl) ?_
                with_reducible refine (lockgateref03_Rsh.calls t424 t425 a2 t446 t447 _ A48.out).mono ?_
                rintro e w61 ⟨rfl, hb⟩
                refine ⟨_, rfl, ?_⟩
                have n0_ := Aside0.mk (blk_below (g := gb422) (o := .cells #[.int .u64 t424, .int .u64 t425] 24 (0, 0)) (by (with_reducible repeat (first | apply bN_19 | apply bD_19 | apply bA_19)); exact BK422.out) hb)
                have n1_ := Aside0.mk (blk_below (g := gb423) (o := .cells #[.int .u64 t426, .int .u64 t427] 24 (0, 0)) (by (with_reducible repeat (first | apply bN_19 | apply bD_19 | apply bA_19)); exact BK423.out) hb)
                have n2_ := Aside0.mk (below_step (by repeat (first | (with_reducible first | exact HB.out | apply lA_19 | apply lN_19 | apply lD_19 | refine lS_19 ?_ GE422.out | refine lS_19 ?_ GE423.out) | exact HB.out)) hb)
                clear BK422
                clear BK423
                clear HB
                have BK422 := n0_
                have BK423 := n1_
                have HB := n2_
                clear n0_ n1_ n2_
                (try clear hb)
                (try clear hb2)
                (try clear hk)
                (try clear hi)
                refine hK.out _ _ ⟨(blk_cell BK422.out 0).trans rfl, (blk_cell BK422.out 1).trans rfl⟩ (fun hHeld => ?_)
                clear hK K
                refine norm_ (a' := ?_) ?_ ?_
                rotate_left
                · show Act.put _ (some 51) _ = _
                  simp only [Act.put, List.setIfInBounds_toArray, List.set_cons_zero, List.set_cons_succ, i64_w, i32_w]
                  rfl
                refine pure_ (i := 14) (N := some 52) (v := ?_) (a' := ?_) #[true, true, true, true, true, true, true, true, true, true, true, true, true, true, true, false, false, false, false, false, false, false, false, false, false, false, false, false, false, false, false, false, false, false, false, false, false, false, false, false] rfl rfl (any_of HT_.out (by kernel_rfl)) (fun _ _ _ h => h) (Or.inl ⟨by rfl, ?_⟩) ?_ ?_
                rotate_left
                · intro w'
                  go_simp
                  with_reducible rfl
                rotate_left
                · simp only [Act.put, List.setIfInBounds_toArray, List.set_cons_zero, List.set_cons_succ, i64_w, i32_w]
                  rfl
                refine pure_ (i := 15) (N := some 53) (v := ?_) (a' := ?_) #[true, true, true, true, true, true, true, true, true, true, true, true, true, true, true, true, false, false, false, false, false, false, false, false, false, false, false, false, false, false, false, false, false, false, false, false, false, false, false, false] rfl rfl (any_of HT_.out (by kernel_rfl)) (fun _ _ _ h => h) (Or.inl ⟨by rfl, ?_⟩) ?_ ?_
                rotate_left
                · intro w'
                  go_simp
                  with_reducible rfl
                rotate_left
                · simp only [Act.put, List.setIfInBounds_toArray, List.set_cons_zero, List.set_cons_succ, i64_w, i32_w]
                  rfl
                refine pure_ (i := 16) (N := some 54) (v := ?_) (a' := ?_) #[true, true, true, true, true, true, true, true, true, true, true, true, true, true, true, true, true, false, false, false, false, false, false, false, false, false, false, false, false, false, false, false, false, false, false, false, false, false, false, false] rfl rfl (any_of HT_.out (by kernel_rfl)) (fun _ _ _ h => h) (Or.inl ⟨by rfl, ?_⟩) ?_ ?_
                rotate_left
                · intro w'
                  go_simp
                  with_reducible rfl
                rotate_left
                · simp only [Act.put, List.setIfInBounds_toArray, List.set_cons_zero, List.set_cons_succ, i64_w, i32_w]
                  rfl
                refine pure_ (i := 18) (N := some 56) (v := ?_) (a' := ?_) #[true, true, true, true, true, true, true, true, true, true, true, true, true, true, true, true, true, false, true, false, false, false, false, false, false, false, false, false, false, false, false, false, false, false, false, false, false, false, false, false] rfl rfl (any_of HT_.out (by kernel_rfl)) (fun _ _ _ h => h) (Or.inl ⟨by rfl, ?_⟩) ?_ ?_
                rotate_left
                · intro w'
                  go_simp
                  with_reducible rfl
                rotate_left
                · simp only [Act.put, List.setIfInBounds_toArray, List.set_cons_zero, List.set_cons_succ, i64_w, i32_w]
                  rfl
                refine pure_ (i := 19) (N := some 57) (v := ?_) (a' := ?_) #[true, true, true, true, true, true, true, true, true, true, true, true, true, true, true, true, true, false, true, true, false, false, false, false, false, false, false, false, false, false, false, false, false, false, false, false, false, false, false, false] rfl rfl (any_of HT_.out (by kernel_rfl)) (fun _ _ _ h => h) (Or.inl ⟨by rfl, ?_⟩) ?_ ?_
                rotate_left
                · intro w'
                  go_simp
                  with_reducible rfl
                rotate_left
                · simp only [Act.put, List.setIfInBounds_toArray, List.set_cons_zero, List.set_cons_succ, i64_w, i32_w]
                  rfl
                refine pure_ (i := 22) (N := some 60) (v := ?_) (a' := ?_) #[true, true, true, true, true, true, true, true, true, true, true, true, true, true, true, true, true, false, true, true, false, false, true, false, false, false, false, false, false, false, false, false, false, false, false, false, false, false, false, false] rfl rfl (any_of HT_.out (by kernel_rfl)) (fun _ _ _ h => h) (Or.inl ⟨by rfl, ?_⟩) ?_ ?_
                rotate_left
                · intro w'
                  go_simp
                  with_reducible rfl
                rotate_left
                · simp only [Act.put, List.setIfInBounds_toArray, List.set_cons_zero, List.set_cons_succ, i64_w, i32_w]
                  rfl
                refine pure_ (i := 23) (N := some 61) (v := ?_) (a' := ?_) #[true, true, true, true, true, true, true, true, true, true, true, true, true, true, true, true, true, false, true, true, false, false, true, true, false, false, false, false, false, false, false, false, false, false, false, false, false, false, false, false] rfl rfl (any_of HT_.out (by kernel_rfl)) (fun _ _ _ h => h) (Or.inl ⟨by rfl, ?_⟩) ?_ ?_
                rotate_left
                · intro w'
                  go_simp
                  with_reducible rfl
                rotate_left
                · simp only [Act.put, List.setIfInBounds_toArray, List.set_cons_zero, List.set_cons_succ, i64_w, i32_w]
                  rfl
                refine take_ (i := 17) (N := some 55) (v := ?_) (a' := ?_) #[true, true, true, true, true, true, true, true, true, true, true, true, true, true, true, true, true, true, true, true, false, false, true, true, false, false, false, false, false, false, false, false, false, false, false, false, false, false, false, false] rfl rfl (take_ofW HT_.out HW_.out (by kernel_rfl)) (fun _ _ _ h => h) (Or.inl ⟨by rfl, ?_⟩) hHeld ?_ ?_
                rotate_left
                · rintro w' ⟨s0, s1⟩
                  go_simp
                  with_reducible rfl
                rotate_left
                · simp only [Act.put, List.setIfInBounds_toArray, List.set_cons_zero, List.set_cons_succ, i64_w, i32_w]
                  rfl
                refine take_ (i := 21) (N := some 59) (v := ?_) (a' := ?_) #[true, true, true, true, true, true, true, true, true, true, true, true, true, true, true, true, true, true, true, true, false, true, true, true, false, false, false, false, false, false, false, false, false, false, false, false, false, false, false, false] rfl rfl (take_ofW HT_.out HW_.out (by kernel_rfl)) (fun _ _ _ h => h) (Or.inl ⟨by rfl, ?_⟩) hHeld ?_ ?_
                rotate_left
                · rintro w' ⟨s0, s1⟩
                  go_simp
                  with_reducible rfl
                rotate_left
                · simp only [Act.put, List.setIfInBounds_toArray, List.set_cons_zero, List.set_cons_succ, i64_w, i32_w]
                  rfl
                refine one_ (i := 20) (N := some 58) #[true, true, true, true, true, true, true, true, true, true, true, true, true, true, true, true, true, true, true, true, true, true, true, true, false, false, false, false, false, false, false, false, false, false, false, false, false, false, false, false] rfl rfl (one_of HT_.out (by kernel_rfl)) (by decide) (fun K hK => ?_)
                refine goes_ Try.func37 (by kernel_rfl) rfl #[.agg #[.int .u64 t424, .int .u64 t425], .int .i64 a2, .int .i64 a3] (by rfl) rfl rfl (by (try simp only [List.map_toArray, List.map_cons, List.map_nil]); first | done | rfl) ?_
                with_reducible refine (tnum_Arsh.calls t424 t425 a2 a3 t448 t449 _ A50.out).mono ?_
                rintro e w62 ⟨rfl, hb⟩
                refine ⟨_, rfl, ?_⟩
                have n0_ := Aside0.mk (blk_below (g := gb422) (o := .cells #[.int .u64 t424, .int .u64 t425] 24 (0, 0)) (by (with_reducible repeat (first | apply bN_19 | apply bD_19 | apply bA_19)); exact BK422.out) hb)
                have n1_ := Aside0.mk (blk_below (g := gb423) (o := .cells #[.int .u64 t426, .int .u64 t427] 24 (0, 0)) (by (with_reducible repeat (first | apply bN_19 | apply bD_19 | apply bA_19)); exact BK423.out) hb)
                have n2_ := Aside0.mk (below_step (by repeat (first | (with_reducible first | exact HB.out | apply lA_19 | apply lN_19 | apply lD_19 | refine lS_19 ?_ GE422.out | refine lS_19 ?_ GE423.out) | exact HB.out)) hb)
                clear BK422
                clear BK423
                clear HB
                have BK422 := n0_
                have BK423 := n1_
                have HB := n2_
                clear n0_ n1_ n2_
                (try clear hb)
                (try clear hb2)
                (try clear hk)
                (try clear hi)
                refine hK.out _ _ ⟨(blk_cell BK422.out 0).trans rfl, (blk_cell BK422.out 1).trans rfl⟩ (fun hHeld => ?_)
                clear hK K
                refine norm_ (a' := ?_) ?_ ?_
                rotate_left
                · show Act.put _ (some 58) _ = _
                  simp only [Act.put, List.setIfInBounds_toArray, List.set_cons_zero, List.set_cons_succ, i64_w, i32_w]
                  rfl
                refine one_ (i := 24) (N := some 62) #[true, true, true, true, true, true, true, true, true, true, true, true, true, true, true, true, true, true, true, true, true, true, true, true, true, false, false, false, false, false, false, false, false, false, false, false, false, false, false, false] rfl rfl (one_of HT_.out (by kernel_rfl)) (by decide) (fun K hK => ?_)
                refine goes_ Try.func44 (by kernel_rfl) rfl #[.agg #[.int .u64 t424, .int .u64 t425], .int .i64 a2, .int .i64 a3] (by rfl) rfl rfl (by (try simp only [List.map_toArray, List.map_cons, List.map_nil]); first | done | rfl) ?_
                with_reducible refine (lockgateref03_Arsh.calls kj6 t424 t425 a2 a3 t450 t451 _ A51.out).mono ?_
                rintro e w63 ⟨rfl, hb⟩
                refine ⟨_, rfl, ?_⟩
                have n0_ := Aside0.mk (blk_below (g := gb422) (o := .cells #[.int .u64 t424, .int .u64 t425] 24 (0, 0)) (by (with_reducible repeat (first | apply bN_19 | apply bD_19 | apply bA_19)); exact BK422.out) hb)
                have n1_ := Aside0.mk (blk_below (g := gb423) (o := .cells #[.int .u64 t426, .int .u64 t427] 24 (0, 0)) (by (with_reducible repeat (first | apply bN_19 | apply bD_19 | apply bA_19)); exact BK423.out) hb)
                have n2_ := Aside0.mk (below_step (by repeat (first | (with_reducible first | exact HB.out | apply lA_19 | apply lN_19 | apply lD_19 | refine lS_19 ?_ GE422.out | refine lS_19 ?_ GE423.out) | exact HB.out)) hb)
                clear BK422
                clear BK423
                clear HB
                have BK422 := n0_
                have BK423 := n1_
                have HB := n2_
                clear n0_ n1_ n2_
                (try clear hb)
                (try clear hb2)
                (try clear hk)
                (try clear hi)
                refine hK.out _ _ ⟨(blk_cell BK422.out 0).trans rfl, (blk_cell BK422.out 1).trans rfl⟩ (fun hHeld => ?_)
                clear hK K
                refine norm_ (a' := ?_) ?_ ?_
                rotate_left
                · show Act.put _ (some 62) _ = _
                  simp only [Act.put, List.setIfInBounds_toArray, List.set_cons_zero, List.set_cons_succ, i64_w, i32_w]
                  rfl
                refine pure_ (i := 25) (N := some 63) (v := ?_) (a' := ?_) #[true, true, true, true, true, true, true, true, true, true, true, true, true, true, true, true, true, true, true, true, true, true, true, true, true, true, false, false, false, false, false, false, false, false, false, false, false, false, false, false] rfl rfl (any_of HT_.out (by kernel_rfl)) (fun _ _ _ h => h) (Or.inl ⟨by rfl, ?_⟩) ?_ ?_
                rotate_left
                · intro w'
                  go_simp
                  with_reducible rfl
                rotate_left
                · simp only [Act.put, List.setIfInBounds_toArray, List.set_cons_zero, List.set_cons_succ, i64_w, i32_w]
                  rfl
                refine pure_ (i := 26) (N := some 64) (v := ?_) (a' := ?_) #[true, true, true, true, true, true, true, true, true, true, true, true, true, true, true, true, true, true, true, true, true, true, true, true, true, true, true, false, false, false, false, false, false, false, false, false, false, false, false, false] rfl rfl (any_of HT_.out (by kernel_rfl)) (fun _ _ _ h => h) (Or.inl ⟨by rfl, ?_⟩) ?_ ?_
                rotate_left
                · intro w'
                  go_simp
                  with_reducible rfl
                rotate_left
                · simp only [Act.put, List.setIfInBounds_toArray, List.set_cons_zero, List.set_cons_succ, i64_w, i32_w]
                  rfl
                refine pure_ (i := 27) (N := some 65) (v := ?_) (a' := ?_) #[true, true, true, true, true, true, true, true, true, true, true, true, true, true, true, true, true, true, true, true, true, true, true, true, true, true, true, true, false, false, false, false, false, false, false, false, false, false, false, false] rfl rfl (any_of HT_.out (by kernel_rfl)) (fun _ _ _ h => h) (Or.inl ⟨by rfl, ?_⟩) ?_ ?_
                rotate_left
                · intro w'
                  go_simp
                  with_reducible rfl
                rotate_left
                · simp only [Act.put, List.setIfInBounds_toArray, List.set_cons_zero, List.set_cons_succ, i64_w, i32_w]
                  rfl
                refine pure_ (i := 29) (N := some 67) (v := ?_) (a' := ?_) #[true, true, true, true, true, true, true, true, true, true, true, true, true, true, true, true, true, true, true, true, true, true, true, true, true, true, true, true, false, true, false, false, false, false, false, false, false, false, false, false] rfl rfl (any_of HT_.out (by kernel_rfl)) (fun _ _ _ h => h) (Or.inl ⟨by rfl, ?_⟩) ?_ ?_
                rotate_left
                · intro w'
                  go_simp
                  with_reducible rfl
                rotate_left
                · simp only [Act.put, List.setIfInBounds_toArray, List.set_cons_zero, List.set_cons_succ, i64_w, i32_w]
                  rfl
                refine pure_ (i := 32) (N := some 70) (v := ?_) (a' := ?_) #[true, true, true, true, true, true, true, true, true, true, true, true, true, true, true, true, true, true, true, true, true, true, true, true, true, true, true, true, false, true, false, false, true, false, false, false, false, false, false, false] rfl rfl (any_of HT_.out (by kernel_rfl)) (fun _ _ _ h => h) (Or.inl ⟨by rfl, ?_⟩) ?_ ?_
                rotate_left
                · intro w'
                  go_simp
                  with_reducible rfl
                rotate_left
                · simp only [Act.put, List.setIfInBounds_toArray, List.set_cons_zero, List.set_cons_succ, i64_w, i32_w]
                  rfl
                refine take_ (i := 28) (N := some 66) (v := ?_) (a' := ?_) #[true, true, true, true, true, true, true, true, true, true, true, true, true, true, true, true, true, true, true, true, true, true, true, true, true, true, true, true, true, true, false, false, true, false, false, false, false, false, false, false] rfl rfl (take_ofW HT_.out HW_.out (by kernel_rfl)) (fun _ _ _ h => h) (Or.inl ⟨by rfl, ?_⟩) hHeld ?_ ?_
                rotate_left
                · rintro w' ⟨s0, s1⟩
                  go_simp
                  with_reducible rfl
                rotate_left
                · simp only [Act.put, List.setIfInBounds_toArray, List.set_cons_zero, List.set_cons_succ, i64_w, i32_w]
                  rfl
                refine take_ (i := 31) (N := some 69) (v := ?_) (a' := ?_) #[true, true, true, true, true, true, true, true, true, true, true, true, true, true, true, true, true, true, true, true, true, true, true, true, true, true, true, true, true, true, false, true, true, false, false, false, false, false, false, false] rfl rfl (take_ofW HT_.out HW_.out (by kernel_rfl)) (fun _ _ _ h => h) (Or.inl ⟨by rfl, ?_⟩) hHeld ?_ ?_
                rotate_left
                · rintro w' ⟨s0, s1⟩
                  go_simp
                  with_reducible rfl
                rotate_left
                · simp only [Act.put, List.setIfInBounds_toArray, List.set_cons_zero, List.set_cons_succ, i64_w, i32_w]
                  rfl
                refine one_ (i := 30) (N := some 68) #[true, true, true, true, true, true, true, true, true, true, true, true, true, true, true, true, true, true, true, true, true, true, true, true, true, true, true, true, true, true, true, true, true, false, false, false, false, false, false, false] rfl rfl (one_of HT_.out (by kernel_rfl)) (by decide) (fun K hK => ?_)
                refine goes_ Try.func45 (by kernel_rfl) rfl #[.agg #[.int .u64 t424, .int .u64 t425], .int .i64 a3] (by rfl) rfl rfl (by (try simp only [List.map_toArray, List.map_cons, List.map_nil]); first | done | rfl) ?_
                with_reducible refine (tnum_Cut.calls t424 t425 a3 t452 t453 _ A53.out).mono ?_
                rintro e w64 ⟨rfl, hb⟩
                refine ⟨_, rfl, ?_⟩
                have n0_ := Aside0.mk (blk_below (g := gb422) (o := .cells #[.int .u64 t424, .int .u64 t425] 24 (0, 0)) (by (with_reducible repeat (first | apply bN_19 | apply bD_19 | apply bA_19)); exact BK422.out) hb)
                have n1_ := Aside0.mk (blk_below (g := gb423) (o := .cells #[.int .u64 t426, .int .u64 t427] 24 (0, 0)) (by (with_reducible repeat (first | apply bN_19 | apply bD_19 | apply bA_19)); exact BK423.out) hb)
                have n2_ := Aside0.mk (below_step (by repeat (first | (with_reducible first | exact HB.out | apply lA_19 | apply lN_19 | apply lD_19 | refine lS_19 ?_ GE422.out | refine lS_19 ?_ GE423.out) | exact HB.out)) hb)
                clear BK422
                clear BK423
                clear HB
                have BK422 := n0_
                have BK423 := n1_
                have HB := n2_
                clear n0_ n1_ n2_
                (try clear hb)
                (try clear hb2)
                (try clear hk)
                (try clear hi)
                refine hK.out _ _ ⟨(blk_cell BK422.out 0).trans rfl, (blk_cell BK422.out 1).trans rfl⟩ (fun hHeld => ?_)
                clear hK K
                refine norm_ (a' := ?_) ?_ ?_
                rotate_left
                · show Act.put _ (some 68) _ = _
                  simp only [Act.put, List.setIfInBounds_toArray, List.set_cons_zero, List.set_cons_succ, i64_w, i32_w]
                  rfl
                refine one_ (i := 33) (N := some 71) #[true, true, true, true, true, true, true, true, true, true, true, true, true, true, true, true, true, true, true, true, true, true, true, true, true, true, true, true, true, true, true, true, true, true, false, false, false, false, false, false] rfl rfl (one_of HT_.out (by kernel_rfl)) (by decide) (fun K hK => ?_)
                refine goes_ Try.func46 (by kernel_rfl) rfl #[.agg #[.int .u64 t424, .int .u64 t425], .int .i64 a3] (by rfl) rfl rfl (by (try simp only [List.map_toArray, List.map_cons, List.map_nil]); first | done | rfl) ?_
                with_reducible refine (lockgateref03_Cut.calls t424 t425 a3 t454 t455 _ A54.out).mono ?_
                rintro e w65 ⟨rfl, hb⟩
                refine ⟨_, rfl, ?_⟩
                have n0_ := Aside0.mk (blk_below (g := gb422) (o := .cells #[.int .u64 t424, .int .u64 t425] 24 (0, 0)) (by (with_reducible repeat (first | apply bN_19 | apply bD_19 | apply bA_19)); exact BK422.out) hb)
                have n1_ := Aside0.mk (blk_below (g := gb423) (o := .cells #[.int .u64 t426, .int .u64 t427] 24 (0, 0)) (by (with_reducible repeat (first | apply bN_19 | apply bD_19 | apply bA_19)); exact BK423.out) hb)
                have n2_ := Aside0.mk (below_step (by repeat (first | (with_reducible first | exact HB.out | apply lA_19 | apply lN_19 | apply lD_19 | refine lS_19 ?_ GE422.out | refine lS_19 ?_ GE423.out) | exact HB.out)) hb)
                clear BK422
                clear BK423
                clear HB
                have BK422 := n0_
                have BK423 := n1_
                have HB := n2_
                clear n0_ n1_ n2_
                (try clear hb)
                (try clear hb2)
                (try clear hk)
                (try clear hi)
                refine hK.out _ _ ⟨(blk_cell BK422.out 0).trans rfl, (blk_cell BK422.out 1).trans rfl⟩ (fun hHeld => ?_)
                clear hK K
                refine norm_ (a' := ?_) ?_ ?_
                rotate_left
                · show Act.put _ (some 71) _ = _
                  simp only [Act.put, List.setIfInBounds_toArray, List.set_cons_zero, List.set_cons_succ, i64_w, i32_w]
                  rfl
                refine pure_ (i := 34) (N := some 72) (v := ?_) (a' := ?_) #[true, true, true, true, true, true, true, true, true, true, true, true, true, true, true, true, true, true, true, true, true, true, true, true, true, true, true, true, true, true, true, true, true, true, true, false, false, false, false, false] rfl rfl (any_of HT_.out (by kernel_rfl)) (fun _ _ _ h => h) (Or.inl ⟨by rfl, ?_⟩) ?_ ?_
                rotate_left
                · intro w'
                  go_simp
                  with_reducible rfl
                rotate_left
                · simp only [Act.put, List.setIfInBounds_toArray, List.set_cons_zero, List.set_cons_succ, i64_w, i32_w]
                  rfl
                refine pure_ (i := 35) (N := some 73) (v := ?_) (a' := ?_) #[true, true, true, true, true, true, true, true, true, true, true, true, true, true, true, true, true, true, true, true, true, true, true, true, true, true, true, true, true, true, true, true, true, true, true, true, false, false, false, false] rfl rfl (any_of HT_.out (by kernel_rfl)) (fun _ _ _ h => h) (Or.inl ⟨by rfl, ?_⟩) ?_ ?_
                rotate_left
                · intro w'
                  go_simp
                  with_reducible rfl
                rotate_left
                · simp only [Act.put, List.setIfInBounds_toArray, List.set_cons_zero, List.set_cons_succ, i64_w, i32_w]
                  rfl
                refine pure_ (i := 36) (N := some 74) (v := ?_) (a' := ?_) #[true, true, true, true, true, true, true, true, true, true, true, true, true, true, true, true, true, true, true, true, true, true, true, true, true, true, true, true, true, true, true, true, true, true, true, true, true, false, false, false] rfl rfl (any_of HT_.out (by kernel_rfl)) (fun _ _ _ h => h) (Or.inl ⟨by rfl, ?_⟩) ?_ ?_
                rotate_left
                · intro w'
                  go_simp
                  with_reducible rfl
                rotate_left
                · simp only [Act.put, List.setIfInBounds_toArray, List.set_cons_zero, List.set_cons_succ, i64_w, i32_w]
                  rfl
                refine one_ (i := 37) (N := some 75) #[true, true, true, true, true, true, true, true, true, true, true, true, true, true, true, true, true, true, true, true, true, true, true, true, true, true, true, true, true, true, true, true, true, true, true, true, true, true, false, false] rfl rfl (one_of HT_.out (by kernel_rfl)) (by decide) (fun K hK => ?_)
                refine goes_ Try.func16 (by kernel_rfl) rfl #[] (by rfl) rfl rfl (by (try simp only [List.map_toArray, List.map_cons, List.map_nil]); first | done | rfl) ?_
                with_reducible refine (lockgatelaw03_known.calls kj6  t456 _ A56.out).mono ?_
                rintro e w66 ⟨rfl, hb⟩
                refine ⟨_, rfl, ?_⟩
                have n0_ := Aside0.mk (blk_below (g := gb422) (o := .cells #[.int .u64 t424, .int .u64 t425] 24 (0, 0)) (by (with_reducible repeat (first | apply bN_19 | apply bD_19 | apply bA_19)); exact BK422.out) hb)
                have n1_ := Aside0.mk (blk_below (g := gb423) (o := .cells #[.int .u64 t426, .int .u64 t427] 24 (0, 0)) (by (with_reducible repeat (first | apply bN_19 | apply bD_19 | apply bA_19)); exact BK423.out) hb)
                have n2_ := Aside0.mk (below_step (by repeat (first | (with_reducible first | exact HB.out | apply lA_19 | apply lN_19 | apply lD_19 | refine lS_19 ?_ GE422.out | refine lS_19 ?_ GE423.out) | exact HB.out)) hb)
                clear BK422
                clear BK423
                clear HB
                have BK422 := n0_
                have BK423 := n1_
                have HB := n2_
                clear n0_ n1_ n2_
                (try clear hb)
                (try clear hb2)
                (try clear hk)
                (try clear hi)
                refine hK.out _ _ ⟨(blk_cell BK422.out 0).trans rfl, (blk_cell BK422.out 1).trans rfl⟩ (fun hHeld => ?_)
                clear hK K
                refine norm_ (a' := ?_) ?_ ?_
                rotate_left
                · show Act.put _ (some 75) _ = _
                  simp only [Act.put, List.setIfInBounds_toArray, List.set_cons_zero, List.set_cons_succ, i64_w, i32_w]
                  rfl
                refine pure_ (i := 38) (N := some 76) (v := ?_) (a' := ?_) #[true, true, true, true, true, true, true, true, true, true, true, true, true, true, true, true, true, true, true, true, true, true, true, true, true, true, true, true, true, true, true, true, true, true, true, true, true, true, true, false] rfl rfl (any_of HT_.out (by kernel_rfl)) (fun _ _ _ h => h) (Or.inl ⟨by rfl, ?_⟩) ?_ ?_
                rotate_left
                · intro w'
                  go_simp
                  with_reducible rfl
                rotate_left
                · simp only [Act.put, List.setIfInBounds_toArray, List.set_cons_zero, List.set_cons_succ, i64_w, i32_w]
                  rfl
                refine pure_ (i := 39) (N := some 8) (v := ?_) (a' := ?_) #[true, true, true, true, true, true, true, true, true, true, true, true, true, true, true, true, true, true, true, true, true, true, true, true, true, true, true, true, true, true, true, true, true, true, true, true, true, true, true, true] rfl rfl (any_of HT_.out (by kernel_rfl)) (fun _ _ _ h => h) (Or.inl ⟨by rfl, ?_⟩) ?_ ?_
                rotate_left
                · intro w'
                  go_simp
                  with_reducible rfl
                rotate_left
                · simp only [Act.put, List.setIfInBounds_toArray, List.set_cons_zero, List.set_cons_succ, i64_w, i32_w]
                  rfl
                refine done_ (done_of HT_.out (by kernel_rfl)) ?_
                try go_wp2
                go_ret
                exact ⟨by first | rfl | (simp [errW_none, errW_some] <;> rfl) | (simp [*, errW_none, errW_some] <;> rfl), by repeat (first | (with_reducible first | exact HB.out | apply lA_19 | apply lN_19 | apply lD_19 | refine lS_19 ?_ GE422.out | refine lS_19 ?_ GE423.out) | exact HB.out)⟩
              · rw [if_neg c55] at H
                have c55b0 : (t452 == t454 && (t453 == t455)) = false := by simpa using c55
                (try (have c55b1 : decide (t452 = t454 && (t453 == t455)) = false := by simpa using c55))
                (try (have c55b2 : (t452 == t454 && (t453 == t455)) = false := by simpa using c55))
                (try (have c55b3 : ¬ (t452 = t454 && (t453 == t455)) := by simpa using c55))
                clear c55
                exact absurd ((Option.some.inj H).trans HRT.out) (by decide)
            · rw [if_neg c52] at H
              have c52b0 : (t448 == t450 && (t449 == t451)) = false := by simpa using c52
              (try (have c52b1 : decide (t448 = t450 && (t449 == t451)) = false := by simpa using c52))
              (try (have c52b2 : (t448 == t450 && (t449 == t451)) = false := by simpa using c52))
              (try (have c52b3 : ¬ (t448 = t450 && (t449 == t451)) := by simpa using c52))
              clear c52
              exact absurd ((Option.some.inj H).trans HRT.out) (by decide)
          · rw [if_neg c49] at H
            have c49b0 : (t444 == t446 && (t445 == t447)) = false := by simpa using c49
            (try (have c49b1 : decide (t444 = t446 && (t445 == t447)) = false := by simpa using c49))
            (try (have c49b2 : (t444 == t446 && (t445 == t447)) = false := by simpa using c49))
            (try (have c49b3 : ¬ (t444 = t446 && (t445 == t447)) := by simpa using c49))
            clear c49
            exact absurd ((Option.some.inj H).trans HRT.out) (by decide)
        · rw [if_neg c46] at H
          have c46b0 : (t440 == t442 && (t441 == t443)) = false := by simpa using c46
          (try (have c46b1 : decide (t440 = t442 && (t441 == t443)) = false := by simpa using c46))
          (try (have c46b2 : (t440 == t442 && (t441 == t443)) = false := by simpa using c46))
          (try (have c46b3 : ¬ (t440 = t442 && (t441 == t443)) := by simpa using c46))
          clear c46
          exact absurd ((Option.some.inj H).trans HRT.out) (by decide)

end Go.Proofs.Ytkmnogcahpbdjaa.PA
