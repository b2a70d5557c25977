-- PRINTED by print.py (a twelfth state) out of the translation. Not trusted: Lean checks it.
import Derived.Test.YtkmnogcahpbdjaaPA0
import Derived.Test.YtkmnogcahpbdjaaPA1
import Derived.Test.YtkmnogcahpbdjaaPA2
import Derived.Test.YtkmnogcahpbdjaaPA4
import Derived.Test.YtkmnogcahpbdjaaPA13
namespace Go.Proofs.Ytkmnogcahpbdjaa.PA
open Go.RowKit Go.Proofs.YtkmnogcahpbdjaaW.PrintWords Go.Proofs.YtkmnogcahpbdjaaW.PrintLast Go.Proofs.YtkmnogcahpbdjaaW.PrintMore
attribute [local go_sem] max2_int min2_int max_two min_two max_three min_three max_four min_four   -- for this text's walks alone
set_option linter.defProp false
def bN_17 := @blk_drewN
def bD_17 := @blk_drew
def bA_17 := @blk_alloc
def lA_17 := @below_alloc
def lN_17 := @pw_below_drewN
def lD_17 := @below_drew1
def lS_17 := @below_set
set_option linter.unusedVariables false
set_option linter.unusedSimpArgs false

attribute [local go_sem high] eqA24
/-! ### lockgatelaw03_TnumLattice: function 6 -/
def lockgatelaw03_TnumLattice.j0 : Nat → Int → Bool → Int → Int → Int → Int → Option (Bool)
  | 0, _, _, _, _, _, _ => none
  | k + 1, x3, x55, x283000, x283001, x284000, x284001 => if x55 = true then (some false) else ((tnum_Meet.f x283000 x283001 x284000 x284001).bind fun bt299 => ((lockgatelaw03_one.f x283000 x283001 x3).bind fun t303 => (if bt299.2.2 = true then (if (Go.bits .and .u64 bt299.1 bt299.2.1) = 0 then ((tnum_Within.f bt299.1 bt299.2.1 x283000 x283001).bind fun t310 => (if t310 = true then ((tnum_Within.f bt299.1 bt299.2.1 x284000 x284001).bind fun t311 => (if t311 = true then ((tnum_In.f bt299.1 bt299.2.1 x3).bind fun t312 => ((tnum_In.f x283000 x283001 x3).bind fun t313 => (if t313 = true then ((tnum_In.f x284000 x284001 x3).bind fun t314 => (if (t312 == t314) = true then ((tnum_In.f bt299.1 bt299.2.1 t303).bind fun t315 => ((tnum_In.f x284000 x284001 t303).bind fun t316 => (if (t315 == t316) = true then ((lockgatelaw03_known.f k).bind fun t317 => (some t317)) else (some false)))) else (some false))) else (if (t312 == false) = true then ((tnum_In.f bt299.1 bt299.2.1 t303).bind fun t318 => ((tnum_In.f x284000 x284001 t303).bind fun t319 => (if (t318 == t319) = true then ((lockgatelaw03_known.f k).bind fun t320 => (some t320)) else (some false)))) else (some false))))) else (some false))) else (some false))) else (some false)) else (if (bt299.1 == 0 && (bt299.2.1 == 0)) = true then ((tnum_In.f x283000 x283001 x3).bind fun t304 => (if t304 = true then ((tnum_In.f x284000 x284001 x3).bind fun t305 => (if t305 = true then (some false) else ((tnum_In.f x284000 x284001 t303).bind fun t306 => (if t306 = true then (some false) else ((lockgatelaw03_known.f k).bind fun t307 => (some t307)))))) else ((tnum_In.f x284000 x284001 t303).bind fun t308 => (if t308 = true then (some false) else ((lockgatelaw03_known.f k).bind fun t309 => (some t309)))))) else (some false)))))
def lockgatelaw03_TnumLattice.f (k : Nat) (a0_0 : Int) (a0_1 : Int) (a1_0 : Int) (a1_1 : Int) (a2_0 : Int) (a2_1 : Int) (a3 : Int) : Option (Bool) := (lockgatelaw03_May.f a0_0 a0_1).bind fun bt285 => ((lockgatelaw03_May.f a1_0 a1_1).bind fun bt287 => ((lockgatelaw03_May.f a2_0 a2_1).bind fun bt289 => ((tnum_Join.f bt285.1 bt285.2 bt287.1 bt287.2).bind fun bt291 => (if (Go.bits .and .u64 bt291.1 bt291.2) = 0 then ((tnum_Within.f bt285.1 bt285.2 bt291.1 bt291.2).bind fun t294 => (if t294 = true then ((tnum_Within.f bt287.1 bt287.2 bt291.1 bt291.2).bind fun t295 => (if t295 = true then ((tnum_Within.f bt285.1 bt285.2 bt289.1 bt289.2).bind fun t296 => (if t296 = true then ((tnum_Within.f bt287.1 bt287.2 bt289.1 bt289.2).bind fun t297 => (if t297 = true then ((tnum_Within.f bt291.1 bt291.2 bt289.1 bt289.2).bind fun t298 => (lockgatelaw03_TnumLattice.j0 k a3 (!t298) bt285.1 bt285.2 bt287.1 bt287.2)) else (lockgatelaw03_TnumLattice.j0 k a3 false bt285.1 bt285.2 bt287.1 bt287.2))) else (lockgatelaw03_TnumLattice.j0 k a3 false bt285.1 bt285.2 bt287.1 bt287.2))) else (lockgatelaw03_TnumLattice.j0 k a3 true bt285.1 bt285.2 bt287.1 bt287.2))) else (lockgatelaw03_TnumLattice.j0 k a3 true bt285.1 bt285.2 bt287.1 bt287.2))) else (lockgatelaw03_TnumLattice.j0 k a3 true bt285.1 bt285.2 bt287.1 bt287.2)))))
theorem lockgatelaw03_TnumLattice.mono_l : ∀ k, (∀ y0 y1 y2 y3 y4 y5, LeO (lockgatelaw03_TnumLattice.j0 k y0 y1 y2 y3 y4 y5) (lockgatelaw03_TnumLattice.j0 (k + 1) y0 y1 y2 y3 y4 y5))
  | 0 => fun _ _ _ _ _ _ r h => by simp [lockgatelaw03_TnumLattice.j0] at h
  | k + 1 => by
    have ih0 := lockgatelaw03_TnumLattice.mono_l k
    · intro y0 y1 y2 y3 y4 y5
      unfold lockgatelaw03_TnumLattice.j0
      repeat' first
      | (with_reducible exact ih0 _ _ _ _ _ _)
      | (with_reducible exact lockgatelaw03_known.mono _)
      | (with_reducible exact LeO.refl _)
      | (with_reducible exact LeO.none _)
      | (with_reducible refine LeO.ite ?_ ?_)
      | (with_reducible refine LeO.bind ?_ (fun _ => ?_))
      | exact ih0 _ _ _ _ _ _
      | exact lockgatelaw03_known.mono _
      | exact LeO.none _
      | refine LeO.ite ?_ ?_
      | refine LeO.bind ?_ (fun _ => ?_)
theorem lockgatelaw03_TnumLattice.mono : ∀ a0 a1 a2 a3 a4 a5 a6 k, LeO (lockgatelaw03_TnumLattice.f k a0 a1 a2 a3 a4 a5 a6) (lockgatelaw03_TnumLattice.f (k + 1) a0 a1 a2 a3 a4 a5 a6) := by
  intro a0 a1 a2 a3 a4 a5 a6 k
  have ih0 := lockgatelaw03_TnumLattice.mono_l k
  unfold lockgatelaw03_TnumLattice.f
  repeat' first
      | (with_reducible exact ih0 _ _ _ _ _ _)
      | (with_reducible exact lockgatelaw03_known.mono _)
      | (with_reducible exact LeO.refl _)
      | (with_reducible exact LeO.none _)
      | (with_reducible refine LeO.ite ?_ ?_)
      | (with_reducible refine LeO.bind ?_ (fun _ => ?_))
      | exact ih0 _ _ _ _ _ _
      | exact lockgatelaw03_known.mono _
      | exact LeO.none _
      | refine LeO.ite ?_ ?_
      | refine LeO.bind ?_ (fun _ => ?_)
def lockgatelaw03_TnumLattice.T11 : Bool × List (List Nat × List Nat) := (true, [([], []), ([0], [0]), ([], []), ([2], [2]), ([1, 3], [1, 3]), ([4], [4]), ([5], [5]), ([6], [6]), ([6], [6]), ([7, 8, 6, 6], [6, 7, 8]), ([6, 9], [6, 9]), ([10, 9], [10]), ([11], [11]), ([11], [11]), ([12, 13, 11, 11], [11, 12, 13]), ([11, 14], [11, 14]), ([15, 14], [15]), ([16], [16]), ([16], [16]), ([17, 18, 16, 16], [16, 17, 18]), ([16], [16]), ([16], [16]), ([20, 21, 19, 16], [16, 20, 21]), ([22, 22, 16], [16, 22]), ([23], [23]), ([23], [23]), ([24, 25, 23, 23], [23, 24, 25]), ([23, 26, 16], [16, 23, 26]), ([19, 27, 16], [16, 19, 27]), ([16, 28], [16, 28]), ([29, 26], [29]), ([30], [30]), ([30], [30]), ([31, 32, 30, 30], [30, 31, 32]), ([30], [30]), ([30], [30]), ([34, 35, 33, 30], [30, 34, 35]), ([33, 36, 30], [30, 33, 36]), ([30, 37], [30, 37]), ([38, 36], [38]), ([39, 39], [39]), ([39, 40], [39, 40]), ([41, 40, 0, 1, 2, 3, 4, 5, 6, 7, 8, 9, 10, 11, 12, 13, 14, 15, 16, 17, 18, 19, 20, 21, 22, 23, 24, 25, 26, 27, 28, 29, 30, 31, 32, 33, 34, 35, 36, 37, 38, 39, 40, 41], [41])])
def lockgatelaw03_TnumLattice.B11 : List Nat := [0, 1, 0, 4, 15, 31, 63, 127, 127, 511, 1023, 2047, 4095, 4095, 16383, 32767, 65535, 131071, 131071, 524287, 131071, 131071, 4194303, 8388607, 16777215, 16777215, 67108863, 134217727, 268435455, 536870911, 1073741823, 2147483647, 2147483647, 8589934591, 2147483647, 2147483647, 68719476735, 137438953471, 274877906943, 549755813887, 1099511627775, 2199023255551, 4398046511103]
theorem lockgatelaw03_TnumLattice.tab11 : rtab .any (opsOf Try.f6 11) = lockgatelaw03_TnumLattice.T11 := by kernel_rfl
theorem lockgatelaw03_TnumLattice.bits11 : waitsOk lockgatelaw03_TnumLattice.T11.2 lockgatelaw03_TnumLattice.B11 = true := by kernel_rfl
set_option maxHeartbeats 8000000 in
set_option maxRecDepth 100000 in
theorem lockgatelaw03_TnumLattice.calls (k : Nat) (a0_0 : Int) (a0_1 : Int) (a1_0 : Int) (a1_1 : Int) (a2_0 : Int) (a2_1 : Int) (a3 : Int) (r : Bool) (w : World) (HRT : Aside0 (r = true)) (h : lockgatelaw03_TnumLattice.f k a0_0 a0_1 a1_0 a1_1 a2_0 a2_1 a3 = some r) :
    Calls Try.prog 6 #[.agg #[.int .u64 a0_0, .int .u64 a0_1], .agg #[.int .u64 a1_0, .int .u64 a1_1], .agg #[.int .u64 a2_0, .int .u64 a2_1], .int .u64 a3] w fun e w' => e = .returned (.bool r) ∧ Below w.heap.size w w' := by
  have hu24 := Try.underlying24
  have HB := Aside0.mk (Below.refl w.heap.size w)
  have H : ((lockgatelaw03_May.f a0_0 a0_1).bind fun bt285 => ((lockgatelaw03_May.f a1_0 a1_1).bind fun bt287 => ((lockgatelaw03_May.f a2_0 a2_1).bind fun bt289 => ((tnum_Join.f bt285.1 bt285.2 bt287.1 bt287.2).bind fun bt291 => (if (Go.bits .and .u64 bt291.1 bt291.2) = 0 then ((tnum_Within.f bt285.1 bt285.2 bt291.1 bt291.2).bind fun t294 => (if t294 = true then ((tnum_Within.f bt287.1 bt287.2 bt291.1 bt291.2).bind fun t295 => (if t295 = true then ((tnum_Within.f bt285.1 bt285.2 bt289.1 bt289.2).bind fun t296 => (if t296 = true then ((tnum_Within.f bt287.1 bt287.2 bt289.1 bt289.2).bind fun t297 => (if t297 = true then ((tnum_Within.f bt291.1 bt291.2 bt289.1 bt289.2).bind fun t298 => (lockgatelaw03_TnumLattice.j0 k a3 (!t298) bt285.1 bt285.2 bt287.1 bt287.2)) else (lockgatelaw03_TnumLattice.j0 k a3 false bt285.1 bt285.2 bt287.1 bt287.2))) else (lockgatelaw03_TnumLattice.j0 k a3 false bt285.1 bt285.2 bt287.1 bt287.2))) else (lockgatelaw03_TnumLattice.j0 k a3 true bt285.1 bt285.2 bt287.1 bt287.2))) else (lockgatelaw03_TnumLattice.j0 k a3 true bt285.1 bt285.2 bt287.1 bt287.2))) else (lockgatelaw03_TnumLattice.j0 k a3 true bt285.1 bt285.2 bt287.1 bt287.2)))))) = some r := h
  clear h
  replace H := Option.bind_eq_some_iff.mp H
  obtain ⟨⟨t285, t286⟩, A50, H⟩ := H
  replace H : ((lockgatelaw03_May.f a1_0 a1_1).bind fun bt287 => ((lockgatelaw03_May.f a2_0 a2_1).bind fun bt289 => ((tnum_Join.f t285 t286 bt287.1 bt287.2).bind fun bt291 => (if (Go.bits .and .u64 bt291.1 bt291.2) = 0 then ((tnum_Within.f t285 t286 bt291.1 bt291.2).bind fun t294 => (if t294 = true then ((tnum_Within.f bt287.1 bt287.2 bt291.1 bt291.2).bind fun t295 => (if t295 = true then ((tnum_Within.f t285 t286 bt289.1 bt289.2).bind fun t296 => (if t296 = true then ((tnum_Within.f bt287.1 bt287.2 bt289.1 bt289.2).bind fun t297 => (if t297 = true then ((tnum_Within.f bt291.1 bt291.2 bt289.1 bt289.2).bind fun t298 => (lockgatelaw03_TnumLattice.j0 k a3 (!t298) t285 t286 bt287.1 bt287.2)) else (lockgatelaw03_TnumLattice.j0 k a3 false t285 t286 bt287.1 bt287.2))) else (lockgatelaw03_TnumLattice.j0 k a3 false t285 t286 bt287.1 bt287.2))) else (lockgatelaw03_TnumLattice.j0 k a3 true t285 t286 bt287.1 bt287.2))) else (lockgatelaw03_TnumLattice.j0 k a3 true t285 t286 bt287.1 bt287.2))) else (lockgatelaw03_TnumLattice.j0 k a3 true t285 t286 bt287.1 bt287.2))))) = some r := H
  have A5 := Aside0.mk A50
  clear A50
  replace H := Option.bind_eq_some_iff.mp H
  obtain ⟨⟨t287, t288⟩, A60, H⟩ := H
  replace H : ((lockgatelaw03_May.f a2_0 a2_1).bind fun bt289 => ((tnum_Join.f t285 t286 t287 t288).bind fun bt291 => (if (Go.bits .and .u64 bt291.1 bt291.2) = 0 then ((tnum_Within.f t285 t286 bt291.1 bt291.2).bind fun t294 => (if t294 = true then ((tnum_Within.f t287 t288 bt291.1 bt291.2).bind fun t295 => (if t295 = true then ((tnum_Within.f t285 t286 bt289.1 bt289.2).bind fun t296 => (if t296 = true then ((tnum_Within.f t287 t288 bt289.1 bt289.2).bind fun t297 => (if t297 = true then ((tnum_Within.f bt291.1 bt291.2 bt289.1 bt289.2).bind fun t298 => (lockgatelaw03_TnumLattice.j0 k a3 (!t298) t285 t286 t287 t288)) else (lockgatelaw03_TnumLattice.j0 k a3 false t285 t286 t287 t288))) else (lockgatelaw03_TnumLattice.j0 k a3 false t285 t286 t287 t288))) else (lockgatelaw03_TnumLattice.j0 k a3 true t285 t286 t287 t288))) else (lockgatelaw03_TnumLattice.j0 k a3 true t285 t286 t287 t288))) else (lockgatelaw03_TnumLattice.j0 k a3 true t285 t286 t287 t288)))) = some r := H
  have A6 := Aside0.mk A60
  clear A60
  replace H := Option.bind_eq_some_iff.mp H
  obtain ⟨⟨t289, t290⟩, A70, H⟩ := H
  replace H : ((tnum_Join.f t285 t286 t287 t288).bind fun bt291 => (if (Go.bits .and .u64 bt291.1 bt291.2) = 0 then ((tnum_Within.f t285 t286 bt291.1 bt291.2).bind fun t294 => (if t294 = true then ((tnum_Within.f t287 t288 bt291.1 bt291.2).bind fun t295 => (if t295 = true then ((tnum_Within.f t285 t286 t289 t290).bind fun t296 => (if t296 = true then ((tnum_Within.f t287 t288 t289 t290).bind fun t297 => (if t297 = true then ((tnum_Within.f bt291.1 bt291.2 t289 t290).bind fun t298 => (lockgatelaw03_TnumLattice.j0 k a3 (!t298) t285 t286 t287 t288)) else (lockgatelaw03_TnumLattice.j0 k a3 false t285 t286 t287 t288))) else (lockgatelaw03_TnumLattice.j0 k a3 false t285 t286 t287 t288))) else (lockgatelaw03_TnumLattice.j0 k a3 true t285 t286 t287 t288))) else (lockgatelaw03_TnumLattice.j0 k a3 true t285 t286 t287 t288))) else (lockgatelaw03_TnumLattice.j0 k a3 true t285 t286 t287 t288))) = some r := H
  have A7 := Aside0.mk A70
  clear A70
  replace H := Option.bind_eq_some_iff.mp H
  obtain ⟨⟨t291, t292⟩, A80, H⟩ := H
  replace H : (if (Go.bits .and .u64 t291 t292) = 0 then ((tnum_Within.f t285 t286 t291 t292).bind fun t294 => (if t294 = true then ((tnum_Within.f t287 t288 t291 t292).bind fun t295 => (if t295 = true then ((tnum_Within.f t285 t286 t289 t290).bind fun t296 => (if t296 = true then ((tnum_Within.f t287 t288 t289 t290).bind fun t297 => (if t297 = true then ((tnum_Within.f t291 t292 t289 t290).bind fun t298 => (lockgatelaw03_TnumLattice.j0 k a3 (!t298) t285 t286 t287 t288)) else (lockgatelaw03_TnumLattice.j0 k a3 false t285 t286 t287 t288))) else (lockgatelaw03_TnumLattice.j0 k a3 false t285 t286 t287 t288))) else (lockgatelaw03_TnumLattice.j0 k a3 true t285 t286 t287 t288))) else (lockgatelaw03_TnumLattice.j0 k a3 true t285 t286 t287 t288))) else (lockgatelaw03_TnumLattice.j0 k a3 true t285 t286 t287 t288)) = some r := H
  have A8 := Aside0.mk A80
  clear A80
  have HC9 := Aside0.mk H
  clear H
  go_enter Try.func6, Try.ntmps6
  go_upto_region 5 with (first | ((with_reducible refine gate_dst (N := 4) rfl ?_); refine box_event ?hg (N := 4) ?hd (cs := #[.int .u64 a0_0, .int .u64 a0_1]) (t := 24) ?hr ?_; (case hd => rfl); (case hg => rfl); (case hr => first | (go_simp; done) | (go_simp; rfl)); intro gb282 hg w10 hbox hb; have n0_ := Aside0.mk (below_step (by repeat (first | (with_reducible first | exact HB.out | apply lA_17 | apply lN_17 | apply lD_17) | exact HB.out)) hb); have n1_ := Aside0.mk (hbox); have n2_ := Aside0.mk ((by rw [hg]; exact (below_size (by repeat (first | (with_reducible first | exact HB.out | apply lA_17 | apply lN_17 | apply lD_17) | exact HB.out))) : w.heap.size ≤ gb282)); have n3_ := Aside0.mk ((by rw [hg]; exact (below_size (by repeat (first | (with_reducible first | exact HB.out | apply lA_17 | apply lN_17 | apply lD_17) | exact HB.out))) : w.heap.size ≤ gb282)); clear HB; have HB := n0_; have BK282 := n1_; have GW282 := n2_; have GE282 := n3_; clear n0_ n1_ n2_ n3_; clear hb hbox hg) | ((with_reducible refine gate_dst (N := 5) rfl ?_); refine box_event ?hg (N := 5) ?hd (cs := #[.int .u64 a1_0, .int .u64 a1_1]) (t := 24) ?hr ?_; (case hd => rfl); (case hg => rfl); (case hr => first | (go_simp; done) | (go_simp; rfl)); intro gb283 hg w11 hbox hb; have n0_ := Aside0.mk (blk_below (g := gb282) (o := .cells #[.int .u64 a0_0, .int .u64 a0_1] 24 (0, 0)) (by (with_reducible repeat (first | apply bN_17 | apply bD_17 | apply bA_17)); exact BK282.out) hb); have n1_ := Aside0.mk (below_step (by repeat (first | (with_reducible first | exact HB.out | apply lA_17 | apply lN_17 | apply lD_17 | refine lS_17 ?_ GE282.out) | exact HB.out)) hb); have n2_ := Aside0.mk (hbox); have n3_ := Aside0.mk ((by rw [hg]; exact (below_size (by repeat (first | (with_reducible first | exact HB.out | apply lA_17 | apply lN_17 | apply lD_17 | refine lS_17 ?_ GE282.out) | exact HB.out))) : w.heap.size ≤ gb283)); have n4_ := Aside0.mk ((by rw [hg]; exact (below_size (by repeat (first | (with_reducible first | exact HB.out | apply lA_17 | apply lN_17 | apply lD_17 | refine lS_17 ?_ GE282.out) | exact HB.out))) : w.heap.size ≤ gb283)); have n5_ := Aside0.mk ((by rw [hg]; exact Nat.ne_of_lt (blk_lt (g := gb282) (o := .cells #[.int .u64 a0_0, .int .u64 a0_1] 24 (0, 0)) (by (with_reducible repeat (first | apply bN_17 | apply bD_17 | apply bA_17)); exact BK282.out)) : gb282 ≠ gb283)); have n6_ := Aside0.mk ((by rw [hg]; exact Nat.ne_of_gt (blk_lt (g := gb282) (o := .cells #[.int .u64 a0_0, .int .u64 a0_1] 24 (0, 0)) (by (with_reducible repeat (first | apply bN_17 | apply bD_17 | apply bA_17)); exact BK282.out)) : gb283 ≠ gb282)); clear BK282; clear HB; have BK282 := n0_; have HB := n1_; have BK283 := n2_; have GW283 := n3_; have GE283 := n4_; have NB282_283 := n5_; have NB283_282 := n6_; clear n0_ n1_ n2_ n3_ n4_ n5_ n6_; clear hb hbox hg) | ((with_reducible refine gate_dst (N := 6) rfl ?_); refine box_event ?hg (N := 6) ?hd (cs := #[.int .u64 a2_0, .int .u64 a2_1]) (t := 24) ?hr ?_; (case hd => rfl); (case hg => rfl); (case hr => first | (go_simp; done) | (go_simp; rfl)); intro gb284 hg w12 hbox hb; have n0_ := Aside0.mk (blk_below (g := gb282) (o := .cells #[.int .u64 a0_0, .int .u64 a0_1] 24 (0, 0)) (by (with_reducible repeat (first | apply bN_17 | apply bD_17 | apply bA_17)); exact BK282.out) hb); have n1_ := Aside0.mk (blk_below (g := gb283) (o := .cells #[.int .u64 a1_0, .int .u64 a1_1] 24 (0, 0)) (by (with_reducible repeat (first | apply bN_17 | apply bD_17 | apply bA_17)); exact BK283.out) hb); have n2_ := Aside0.mk (below_step (by repeat (first | (with_reducible first | exact HB.out | apply lA_17 | apply lN_17 | apply lD_17 | refine lS_17 ?_ GE282.out | refine lS_17 ?_ GE283.out) | exact HB.out)) hb); have n3_ := Aside0.mk (hbox); have n4_ := Aside0.mk ((by rw [hg]; exact (below_size (by repeat (first | (with_reducible first | exact HB.out | apply lA_17 | apply lN_17 | apply lD_17 | refine lS_17 ?_ GE282.out | refine lS_17 ?_ GE283.out) | exact HB.out))) : w.heap.size ≤ gb284)); have n5_ := Aside0.mk ((by rw [hg]; exact (below_size (by repeat (first | (with_reducible first | exact HB.out | apply lA_17 | apply lN_17 | apply lD_17 | refine lS_17 ?_ GE282.out | refine lS_17 ?_ GE283.out) | exact HB.out))) : w.heap.size ≤ gb284)); have n6_ := Aside0.mk ((by rw [hg]; exact Nat.ne_of_lt (blk_lt (g := gb282) (o := .cells #[.int .u64 a0_0, .int .u64 a0_1] 24 (0, 0)) (by (with_reducible repeat (first | apply bN_17 | apply bD_17 | apply bA_17)); exact BK282.out)) : gb282 ≠ gb284)); have n7_ := Aside0.mk ((by rw [hg]; exact Nat.ne_of_gt (blk_lt (g := gb282) (o := .cells #[.int .u64 a0_0, .int .u64 a0_1] 24 (0, 0)) (by (with_reducible repeat (first | apply bN_17 | apply bD_17 | apply bA_17)); exact BK282.out)) : gb284 ≠ gb282)); have n8_ := Aside0.mk ((by rw [hg]; exact Nat.ne_of_lt (blk_lt (g := gb283) (o := .cells #[.int .u64 a1_0, .int .u64 a1_1] 24 (0, 0)) (by (with_reducible repeat (first | apply bN_17 | apply bD_17 | apply bA_17)); exact BK283.out)) : gb283 ≠ gb284)); have n9_ := Aside0.mk ((by rw [hg]; exact Nat.ne_of_gt (blk_lt (g := gb283) (o := .cells #[.int .u64 a1_0, .int .u64 a1_1] 24 (0, 0)) (by (with_reducible repeat (first | apply bN_17 | apply bD_17 | apply bA_17)); exact BK283.out)) : gb284 ≠ gb283)); clear BK282; clear BK283; clear HB; have BK282 := n0_; have BK283 := n1_; have HB := n2_; have BK284 := n3_; have GW284 := n4_; have GE284 := n5_; have NB282_284 := n6_; have NB284_282 := n7_; have NB283_284 := n8_; have NB284_283 := n9_; clear n0_ n1_ n2_ n3_ n4_ n5_ n6_ n7_ n8_ n9_; clear hb hbox hg; have hnb13 := NB282_283.out; have hnc13 := NB283_282.out; have hnb14 := NB282_284.out; have hnc14 := NB284_282.out; have hcz15_0 : w12.cell? ⟨gb282, 0, none⟩ = some (.int .u64 a0_0) := (blk_cell BK282.out 0).trans rfl; have hcz15_1 : w12.cell? ⟨gb282, 1, none⟩ = some (.int .u64 a0_1) := (blk_cell BK282.out 1).trans rfl; have hfz15_0 := blk_frozen BK282.out 0; have hfz15_1 := blk_frozen BK282.out 1) | ((with_reducible refine gate_callee (f := 12) rfl ?_); refine goesL_ (some 14) rfl rfl Try.func12 (by kernel_rfl) rfl #[.agg #[.int .u64 a0_0, .int .u64 a0_1]] rfl (by (try simp only [List.map_toArray, List.map_cons, List.map_nil]); first | done | rfl) ?_; (with_reducible refine (lockgatelaw03_May.calls a0_0 a0_1 t285 t286 _ A5.out).mono ?_); rintro e w16 ⟨rfl, hb⟩; refine ⟨_, rfl, ?_⟩; have n0_ := Aside0.mk (blk_below (g := gb282) (o := .cells #[.int .u64 a0_0, .int .u64 a0_1] 24 (0, 0)) (by (with_reducible repeat (first | apply bN_17 | apply bD_17 | apply bA_17)); exact BK282.out) hb); have n1_ := Aside0.mk (blk_below (g := gb283) (o := .cells #[.int .u64 a1_0, .int .u64 a1_1] 24 (0, 0)) (by (with_reducible repeat (first | apply bN_17 | apply bD_17 | apply bA_17)); exact BK283.out) hb); have n2_ := Aside0.mk (blk_below (g := gb284) (o := .cells #[.int .u64 a2_0, .int .u64 a2_1] 24 (0, 0)) (by (with_reducible repeat (first | apply bN_17 | apply bD_17 | apply bA_17)); exact BK284.out) hb); have n3_ := Aside0.mk (below_step (by repeat (first | (with_reducible first | exact HB.out | apply lA_17 | apply lN_17 | apply lD_17 | refine lS_17 ?_ GE282.out | refine lS_17 ?_ GE283.out | refine lS_17 ?_ GE284.out) | exact HB.out)) hb); clear BK282; clear BK283; clear BK284; clear HB; have BK282 := n0_; have BK283 := n1_; have BK284 := n2_; have HB := n3_; clear n0_ n1_ n2_ n3_; (try clear hb); (try clear hb2); (try clear hk); (try clear hi); have hcz17_0 : w16.cell? ⟨gb282, 0, none⟩ = some (.int .u64 a0_0) := (blk_cell BK282.out 0).trans rfl; have hcz17_1 : w16.cell? ⟨gb282, 1, none⟩ = some (.int .u64 a0_1) := (blk_cell BK282.out 1).trans rfl; have hfz17_0 := blk_frozen BK282.out 0; have hfz17_1 := blk_frozen BK282.out 1; have hnb18 := NB283_284.out; have hnc18 := NB284_283.out; have hcz19_0 : w16.cell? ⟨gb283, 0, none⟩ = some (.int .u64 a1_0) := (blk_cell BK283.out 0).trans rfl; have hcz19_1 : w16.cell? ⟨gb283, 1, none⟩ = some (.int .u64 a1_1) := (blk_cell BK283.out 1).trans rfl; have hfz19_0 := blk_frozen BK283.out 0; have hfz19_1 := blk_frozen BK283.out 1) | ((with_reducible refine gate_callee (f := 12) rfl ?_); refine goesL_ (some 16) rfl rfl Try.func12 (by kernel_rfl) rfl #[.agg #[.int .u64 a1_0, .int .u64 a1_1]] rfl (by (try simp only [List.map_toArray, List.map_cons, List.map_nil]); first | done | rfl) ?_; (with_reducible refine (lockgatelaw03_May.calls a1_0 a1_1 t287 t288 _ A6.out).mono ?_); rintro e w20 ⟨rfl, hb⟩; refine ⟨_, rfl, ?_⟩; have n0_ := Aside0.mk (blk_below (g := gb282) (o := .cells #[.int .u64 t285, .int .u64 t286] 24 (0, 0)) (by (with_reducible repeat (first | apply bN_17 | apply bD_17 | apply bA_17)); refine blk_put (cs := #[.int .u64 t285, .int .u64 a0_1]) ?_ 1 _ rfl; (with_reducible repeat (first | apply bN_17 | apply bD_17 | apply bA_17)); refine blk_put (cs := #[.int .u64 a0_0, .int .u64 a0_1]) ?_ 0 _ rfl; (with_reducible repeat (first | apply bN_17 | apply bD_17 | apply bA_17)); exact BK282.out) hb); have n1_ := Aside0.mk (blk_below (g := gb283) (o := .cells #[.int .u64 a1_0, .int .u64 a1_1] 24 (0, 0)) (by (with_reducible repeat (first | apply bN_17 | apply bD_17 | apply bA_17)); refine blk_far ?_ NB283_282.out _; (with_reducible repeat (first | apply bN_17 | apply bD_17 | apply bA_17)); refine blk_far ?_ NB283_282.out _; (with_reducible repeat (first | apply bN_17 | apply bD_17 | apply bA_17)); exact BK283.out) hb); have n2_ := Aside0.mk (blk_below (g := gb284) (o := .cells #[.int .u64 a2_0, .int .u64 a2_1] 24 (0, 0)) (by (with_reducible repeat (first | apply bN_17 | apply bD_17 | apply bA_17)); refine blk_far ?_ NB284_282.out _; (with_reducible repeat (first | apply bN_17 | apply bD_17 | apply bA_17)); refine blk_far ?_ NB284_282.out _; (with_reducible repeat (first | apply bN_17 | apply bD_17 | apply bA_17)); exact BK284.out) hb); have n3_ := Aside0.mk (below_step (by repeat (first | (with_reducible first | exact HB.out | apply lA_17 | apply lN_17 | apply lD_17 | refine lS_17 ?_ GE282.out | refine lS_17 ?_ GE283.out | refine lS_17 ?_ GE284.out) | exact HB.out)) hb); clear BK282; clear BK283; clear BK284; clear HB; have BK282 := n0_; have BK283 := n1_; have BK284 := n2_; have HB := n3_; clear n0_ n1_ n2_ n3_; (try clear hb); (try clear hb2); (try clear hk); (try clear hi); have hcz21_0 : w20.cell? ⟨gb283, 0, none⟩ = some (.int .u64 a1_0) := (blk_cell BK283.out 0).trans rfl; have hcz21_1 : w20.cell? ⟨gb283, 1, none⟩ = some (.int .u64 a1_1) := (blk_cell BK283.out 1).trans rfl; have hfz21_0 := blk_frozen BK283.out 0; have hfz21_1 := blk_frozen BK283.out 1; have hcz22_0 : w20.cell? ⟨gb284, 0, none⟩ = some (.int .u64 a2_0) := (blk_cell BK284.out 0).trans rfl; have hcz22_1 : w20.cell? ⟨gb284, 1, none⟩ = some (.int .u64 a2_1) := (blk_cell BK284.out 1).trans rfl; have hfz22_0 := blk_frozen BK284.out 0; have hfz22_1 := blk_frozen BK284.out 1) | ((with_reducible refine gate_callee (f := 12) rfl ?_); refine goesL_ (some 18) rfl rfl Try.func12 (by kernel_rfl) rfl #[.agg #[.int .u64 a2_0, .int .u64 a2_1]] rfl (by (try simp only [List.map_toArray, List.map_cons, List.map_nil]); first | done | rfl) ?_; (with_reducible refine (lockgatelaw03_May.calls a2_0 a2_1 t289 t290 _ A7.out).mono ?_); rintro e w23 ⟨rfl, hb⟩; refine ⟨_, rfl, ?_⟩; have n0_ := Aside0.mk (blk_below (g := gb282) (o := .cells #[.int .u64 t285, .int .u64 t286] 24 (0, 0)) (by (with_reducible repeat (first | apply bN_17 | apply bD_17 | apply bA_17)); refine blk_far ?_ NB282_283.out _; (with_reducible repeat (first | apply bN_17 | apply bD_17 | apply bA_17)); refine blk_far ?_ NB282_283.out _; (with_reducible repeat (first | apply bN_17 | apply bD_17 | apply bA_17)); exact BK282.out) hb); have n1_ := Aside0.mk (blk_below (g := gb283) (o := .cells #[.int .u64 t287, .int .u64 t288] 24 (0, 0)) (by (with_reducible repeat (first | apply bN_17 | apply bD_17 | apply bA_17)); refine blk_put (cs := #[.int .u64 t287, .int .u64 a1_1]) ?_ 1 _ rfl; (with_reducible repeat (first | apply bN_17 | apply bD_17 | apply bA_17)); refine blk_put (cs := #[.int .u64 a1_0, .int .u64 a1_1]) ?_ 0 _ rfl; (with_reducible repeat (first | apply bN_17 | apply bD_17 | apply bA_17)); exact BK283.out) hb); have n2_ := Aside0.mk (blk_below (g := gb284) (o := .cells #[.int .u64 a2_0, .int .u64 a2_1] 24 (0, 0)) (by (with_reducible repeat (first | apply bN_17 | apply bD_17 | apply bA_17)); refine blk_far ?_ NB284_283.out _; (with_reducible repeat (first | apply bN_17 | apply bD_17 | apply bA_17)); refine blk_far ?_ NB284_283.out _; (with_reducible repeat (first | apply bN_17 | apply bD_17 | apply bA_17)); exact BK284.out) hb); have n3_ := Aside0.mk (below_step (by repeat (first | (with_reducible first | exact HB.out | apply lA_17 | apply lN_17 | apply lD_17 | refine lS_17 ?_ GE282.out | refine lS_17 ?_ GE283.out | refine lS_17 ?_ GE284.out) | exact HB.out)) hb); clear BK282; clear BK283; clear BK284; clear HB; have BK282 := n0_; have BK283 := n1_; have BK284 := n2_; have HB := n3_; clear n0_ n1_ n2_ n3_; (try clear hb); (try clear hb2); (try clear hk); (try clear hi); have hcz24_0 : w23.cell? ⟨gb284, 0, none⟩ = some (.int .u64 a2_0) := (blk_cell BK284.out 0).trans rfl; have hcz24_1 : w23.cell? ⟨gb284, 1, none⟩ = some (.int .u64 a2_1) := (blk_cell BK284.out 1).trans rfl; have hfz24_0 := blk_frozen BK284.out 0; have hfz24_1 := blk_frozen BK284.out 1; have hcz25_0 : w23.cell? ⟨gb282, 0, none⟩ = some (.int .u64 t285) := (blk_cell BK282.out 0).trans rfl; have hcz25_1 : w23.cell? ⟨gb282, 1, none⟩ = some (.int .u64 t286) := (blk_cell BK282.out 1).trans rfl; have hfz25_0 := blk_frozen BK282.out 0; have hfz25_1 := blk_frozen BK282.out 1; have hcz26_0 : w23.cell? ⟨gb283, 0, none⟩ = some (.int .u64 t287) := (blk_cell BK283.out 0).trans rfl; have hcz26_1 : w23.cell? ⟨gb283, 1, none⟩ = some (.int .u64 t288) := (blk_cell BK283.out 1).trans rfl; have hfz26_0 := blk_frozen BK283.out 0; have hfz26_1 := blk_frozen BK283.out 1) | ((with_reducible refine gate_callee (f := 31) rfl ?_); refine goesL_ (some 21) rfl rfl Try.func31 (by kernel_rfl) rfl #[.agg #[.int .u64 t285, .int .u64 t286], .agg #[.int .u64 t287, .int .u64 t288]] rfl (by (try simp only [List.map_toArray, List.map_cons, List.map_nil]); first | done | rfl) ?_; (with_reducible refine (tnum_Join.calls t285 t286 t287 t288 t291 t292 _ A8.out).mono ?_); rintro e w27 ⟨rfl, hb⟩; refine ⟨_, rfl, ?_⟩; have n0_ := Aside0.mk (blk_below (g := gb282) (o := .cells #[.int .u64 t285, .int .u64 t286] 24 (0, 0)) (by (with_reducible repeat (first | apply bN_17 | apply bD_17 | apply bA_17)); refine blk_far ?_ NB282_284.out _; (with_reducible repeat (first | apply bN_17 | apply bD_17 | apply bA_17)); refine blk_far ?_ NB282_284.out _; (with_reducible repeat (first | apply bN_17 | apply bD_17 | apply bA_17)); exact BK282.out) hb); have n1_ := Aside0.mk (blk_below (g := gb283) (o := .cells #[.int .u64 t287, .int .u64 t288] 24 (0, 0)) (by (with_reducible repeat (first | apply bN_17 | apply bD_17 | apply bA_17)); refine blk_far ?_ NB283_284.out _; (with_reducible repeat (first | apply bN_17 | apply bD_17 | apply bA_17)); refine blk_far ?_ NB283_284.out _; (with_reducible repeat (first | apply bN_17 | apply bD_17 | apply bA_17)); exact BK283.out) hb); have n2_ := Aside0.mk (blk_below (g := gb284) (o := .cells #[.int .u64 t289, .int .u64 t290] 24 (0, 0)) (by (with_reducible repeat (first | apply bN_17 | apply bD_17 | apply bA_17)); refine blk_put (cs := #[.int .u64 t289, .int .u64 a2_1]) ?_ 1 _ rfl; (with_reducible repeat (first | apply bN_17 | apply bD_17 | apply bA_17)); refine blk_put (cs := #[.int .u64 a2_0, .int .u64 a2_1]) ?_ 0 _ rfl; (with_reducible repeat (first | apply bN_17 | apply bD_17 | apply bA_17)); exact BK284.out) hb); have n3_ := Aside0.mk (below_step (by repeat (first | (with_reducible first | exact HB.out | apply lA_17 | apply lN_17 | apply lD_17 | refine lS_17 ?_ GE282.out | refine lS_17 ?_ GE283.out | refine lS_17 ?_ GE284.out) | exact HB.out)) hb); clear BK282; clear BK283; clear BK284; clear HB; have BK282 := n0_; have BK283 := n1_; have BK284 := n2_; have HB := n3_; clear n0_ n1_ n2_ n3_; (try clear hb); (try clear hb2); (try clear hk); (try clear hi)) | ((with_reducible refine gate_dst (N := 9) rfl ?_); refine box_event ?hg (N := 9) ?hd (cs := #[.int .u64 0, .int .u64 0]) (t := 24) ?hr ?_; (case hd => rfl); (case hg => rfl); (case hr => first | (go_simp; done) | (go_simp; rfl)); intro gb293 hg w28 hbox hb; have n0_ := Aside0.mk (blk_below (g := gb282) (o := .cells #[.int .u64 t285, .int .u64 t286] 24 (0, 0)) (by (with_reducible repeat (first | apply bN_17 | apply bD_17 | apply bA_17)); exact BK282.out) hb); have n1_ := Aside0.mk (blk_below (g := gb283) (o := .cells #[.int .u64 t287, .int .u64 t288] 24 (0, 0)) (by (with_reducible repeat (first | apply bN_17 | apply bD_17 | apply bA_17)); exact BK283.out) hb); have n2_ := Aside0.mk (blk_below (g := gb284) (o := .cells #[.int .u64 t289, .int .u64 t290] 24 (0, 0)) (by (with_reducible repeat (first | apply bN_17 | apply bD_17 | apply bA_17)); exact BK284.out) hb); have n3_ := Aside0.mk (below_step (by repeat (first | (with_reducible first | exact HB.out | apply lA_17 | apply lN_17 | apply lD_17 | refine lS_17 ?_ GE282.out | refine lS_17 ?_ GE283.out | refine lS_17 ?_ GE284.out) | exact HB.out)) hb); have n4_ := Aside0.mk (hbox); have n5_ := Aside0.mk ((by rw [hg]; exact (below_size (by repeat (first | (with_reducible first | exact HB.out | apply lA_17 | apply lN_17 | apply lD_17 | refine lS_17 ?_ GE282.out | refine lS_17 ?_ GE283.out | refine lS_17 ?_ GE284.out) | exact HB.out))) : w.heap.size ≤ gb293)); have n6_ := Aside0.mk ((by rw [hg]; exact (below_size (by repeat (first | (with_reducible first | exact HB.out | apply lA_17 | apply lN_17 | apply lD_17 | refine lS_17 ?_ GE282.out | refine lS_17 ?_ GE283.out | refine lS_17 ?_ GE284.out) | exact HB.out))) : w.heap.size ≤ gb293)); have n7_ := Aside0.mk ((by rw [hg]; exact Nat.ne_of_lt (blk_lt (g := gb282) (o := .cells #[.int .u64 t285, .int .u64 t286] 24 (0, 0)) (by (with_reducible repeat (first | apply bN_17 | apply bD_17 | apply bA_17)); exact BK282.out)) : gb282 ≠ gb293)); have n8_ := Aside0.mk ((by rw [hg]; exact Nat.ne_of_gt (blk_lt (g := gb282) (o := .cells #[.int .u64 t285, .int .u64 t286] 24 (0, 0)) (by (with_reducible repeat (first | apply bN_17 | apply bD_17 | apply bA_17)); exact BK282.out)) : gb293 ≠ gb282)); have n9_ := Aside0.mk ((by rw [hg]; exact Nat.ne_of_lt (blk_lt (g := gb283) (o := .cells #[.int .u64 t287, .int .u64 t288] 24 (0, 0)) (by (with_reducible repeat (first | apply bN_17 | apply bD_17 | apply bA_17)); exact BK283.out)) : gb283 ≠ gb293)); have n10_ := Aside0.mk ((by rw [hg]; exact Nat.ne_of_gt (blk_lt (g := gb283) (o := .cells #[.int .u64 t287, .int .u64 t288] 24 (0, 0)) (by (with_reducible repeat (first | apply bN_17 | apply bD_17 | apply bA_17)); exact BK283.out)) : gb293 ≠ gb283)); have n11_ := Aside0.mk ((by rw [hg]; exact Nat.ne_of_lt (blk_lt (g := gb284) (o := .cells #[.int .u64 t289, .int .u64 t290] 24 (0, 0)) (by (with_reducible repeat (first | apply bN_17 | apply bD_17 | apply bA_17)); exact BK284.out)) : gb284 ≠ gb293)); have n12_ := Aside0.mk ((by rw [hg]; exact Nat.ne_of_gt (blk_lt (g := gb284) (o := .cells #[.int .u64 t289, .int .u64 t290] 24 (0, 0)) (by (with_reducible repeat (first | apply bN_17 | apply bD_17 | apply bA_17)); exact BK284.out)) : gb293 ≠ gb284)); clear BK282; clear BK283; clear BK284; clear HB; have BK282 := n0_; have BK283 := n1_; have BK284 := n2_; have HB := n3_; have BK293 := n4_; have GW293 := n5_; have GE293 := n6_; have NB282_293 := n7_; have NB293_282 := n8_; have NB283_293 := n9_; have NB293_283 := n10_; have NB284_293 := n11_; have NB293_284 := n12_; clear n0_ n1_ n2_ n3_ n4_ n5_ n6_ n7_ n8_ n9_ n10_ n11_ n12_; clear hb hbox hg; have hnb29 := NB293_282.out; have hnc29 := NB282_293.out; have hnb30 := NB293_283.out; have hnc30 := NB283_293.out; have hnb31 := NB293_284.out; have hnc31 := NB284_293.out; have hcz32_0 : w28.cell? ⟨gb293, 0, none⟩ = some (.int .u64 0) := (blk_cell BK293.out 0).trans rfl; have hcz32_1 : w28.cell? ⟨gb293, 1, none⟩ = some (.int .u64 0) := (blk_cell BK293.out 1).trans rfl; have hfz32_0 := blk_frozen BK293.out 0; have hfz32_1 := blk_frozen BK293.out 1))
  (try simp only [Act.put, List.setIfInBounds_toArray, List.set_cons_zero, List.set_cons_succ])
  go_cut [55] (fun v55 wc => ∃ (kq : Nat) (x55_8 : Bool), v55 = .bool x55_8 ∧ Aside0 (lockgatelaw03_TnumLattice.j0 kq a3 x55_8 t285 t286 t287 t288 = some r) ∧ Aside0 (kq ≤ k) ∧ Aside0 (wc.heap[gb282]? = some (.cells #[.int .u64 t285, .int .u64 t286] 24 (0, 0))) ∧ Aside0 (wc.heap[gb283]? = some (.cells #[.int .u64 t287, .int .u64 t288] 24 (0, 0))) ∧ Aside0 (wc.heap[gb284]? = some (.cells #[.int .u64 t289, .int .u64 t290] 24 (0, 0))) ∧ Aside0 (wc.heap[gb293]? = some (.cells #[.int .u64 t291, .int .u64 t292] 24 (0, 0))) ∧ Aside0 (Below w.heap.size w wc))
  case first =>
    have H := HC9.out
    clear HC9
    by_cases c33 : (Go.bits .and .u64 t291 t292) = 0
    · rw [if_pos c33] at H
      have c33b0 : ((Go.bits .and .u64 t291 t292) == 0) = true := beq_iff_eq.mpr c33
      have c33b1 : ((Go.bits .and .u64 t291 t292) != 0) = false := bne_eq_false_iff_eq.mpr c33
      clear c33
      (first | rw [c33b0] | (simp only [i64_w, i32_w]; rw [c33b0]) | skip)
      replace H := Option.bind_eq_some_iff.mp H
      obtain ⟨t294, A340, H⟩ := H
      replace H : (if t294 = true then ((tnum_Within.f t287 t288 t291 t292).bind fun t295 => (if t295 = true then ((tnum_Within.f t285 t286 t289 t290).bind fun t296 => (if t296 = true then ((tnum_Within.f t287 t288 t289 t290).bind fun t297 => (if t297 = true then ((tnum_Within.f t291 t292 t289 t290).bind fun t298 => (lockgatelaw03_TnumLattice.j0 k a3 (!t298) t285 t286 t287 t288)) else (lockgatelaw03_TnumLattice.j0 k a3 false t285 t286 t287 t288))) else (lockgatelaw03_TnumLattice.j0 k a3 false t285 t286 t287 t288))) else (lockgatelaw03_TnumLattice.j0 k a3 true t285 t286 t287 t288))) else (lockgatelaw03_TnumLattice.j0 k a3 true t285 t286 t287 t288)) = some r := H
      have A34 := Aside0.mk A340
      clear A340
      by_cases c35 : t294 = true
      · subst c35
        have H1 : ((tnum_Within.f t287 t288 t291 t292).bind fun t295 => (if t295 = true then ((tnum_Within.f t285 t286 t289 t290).bind fun t296 => (if t296 = true then ((tnum_Within.f t287 t288 t289 t290).bind fun t297 => (if t297 = true then ((tnum_Within.f t291 t292 t289 t290).bind fun t298 => (lockgatelaw03_TnumLattice.j0 k a3 (!t298) t285 t286 t287 t288)) else (lockgatelaw03_TnumLattice.j0 k a3 false t285 t286 t287 t288))) else (lockgatelaw03_TnumLattice.j0 k a3 false t285 t286 t287 t288))) else (lockgatelaw03_TnumLattice.j0 k a3 true t285 t286 t287 t288))) = some r := by rw [if_pos rfl] at H; exact H
        clear H
        have H := H1
        clear H1
        replace H := Option.bind_eq_some_iff.mp H
        obtain ⟨t295, A360, H⟩ := H
        replace H : (if t295 = true then ((tnum_Within.f t285 t286 t289 t290).bind fun t296 => (if t296 = true then ((tnum_Within.f t287 t288 t289 t290).bind fun t297 => (if t297 = true then ((tnum_Within.f t291 t292 t289 t290).bind fun t298 => (lockgatelaw03_TnumLattice.j0 k a3 (!t298) t285 t286 t287 t288)) else (lockgatelaw03_TnumLattice.j0 k a3 false t285 t286 t287 t288))) else (lockgatelaw03_TnumLattice.j0 k a3 false t285 t286 t287 t288))) else (lockgatelaw03_TnumLattice.j0 k a3 true t285 t286 t287 t288)) = some r := H
        have A36 := Aside0.mk A360
        clear A360
        by_cases c37 : t295 = true
        · subst c37
          have H1 : ((tnum_Within.f t285 t286 t289 t290).bind fun t296 => (if t296 = true then ((tnum_Within.f t287 t288 t289 t290).bind fun t297 => (if t297 = true then ((tnum_Within.f t291 t292 t289 t290).bind fun t298 => (lockgatelaw03_TnumLattice.j0 k a3 (!t298) t285 t286 t287 t288)) else (lockgatelaw03_TnumLattice.j0 k a3 false t285 t286 t287 t288))) else (lockgatelaw03_TnumLattice.j0 k a3 false t285 t286 t287 t288))) = some r := by rw [if_pos rfl] at H; exact H
          clear H
          have H := H1
          clear H1
          replace H := Option.bind_eq_some_iff.mp H
          obtain ⟨t296, A380, H⟩ := H
          replace H : (if t296 = true then ((tnum_Within.f t287 t288 t289 t290).bind fun t297 => (if t297 = true then ((tnum_Within.f t291 t292 t289 t290).bind fun t298 => (lockgatelaw03_TnumLattice.j0 k a3 (!t298) t285 t286 t287 t288)) else (lockgatelaw03_TnumLattice.j0 k a3 false t285 t286 t287 t288))) else (lockgatelaw03_TnumLattice.j0 k a3 false t285 t286 t287 t288)) = some r := H
          have A38 := Aside0.mk A380
          clear A380
          by_cases c39 : t296 = true
          · subst c39
            have H1 : ((tnum_Within.f t287 t288 t289 t290).bind fun t297 => (if t297 = true then ((tnum_Within.f t291 t292 t289 t290).bind fun t298 => (lockgatelaw03_TnumLattice.j0 k a3 (!t298) t285 t286 t287 t288)) else (lockgatelaw03_TnumLattice.j0 k a3 false t285 t286 t287 t288))) = some r := by rw [if_pos rfl] at H; exact H
            clear H
            have H := H1
            clear H1
            replace H := Option.bind_eq_some_iff.mp H
            obtain ⟨t297, A400, H⟩ := H
            replace H : (if t297 = true then ((tnum_Within.f t291 t292 t289 t290).bind fun t298 => (lockgatelaw03_TnumLattice.j0 k a3 (!t298) t285 t286 t287 t288)) else (lockgatelaw03_TnumLattice.j0 k a3 false t285 t286 t287 t288)) = some r := H
            have A40 := Aside0.mk A400
            clear A400
            by_cases c41 : t297 = true
            · subst c41
              have H1 : ((tnum_Within.f t291 t292 t289 t290).bind fun t298 => (lockgatelaw03_TnumLattice.j0 k a3 (!t298) t285 t286 t287 t288)) = some r := by rw [if_pos rfl] at H; exact H
              clear H
              have H := H1
              clear H1
              replace H := Option.bind_eq_some_iff.mp H
              obtain ⟨t298, A420, H⟩ := H
              replace H : (lockgatelaw03_TnumLattice.j0 k a3 (!t298) t285 t286 t287 t288) = some r := H
              have A42 := Aside0.mk A420
              clear A420
              have H' := Aside0.mk H
              clear H
              have hnb43 := NB293_282.out
              have hnc43 := NB282_293.out
              have hnb44 := NB293_283.out
              have hnc44 := NB283_293.out
              have hnb45 := NB293_284.out
              have hnc45 := NB284_293.out
              have hcz46_0 : w28.cell? ⟨gb293, 0, none⟩ = some (.int .u64 0) := (blk_cell BK293.out 0).trans rfl
              have hcz46_1 : w28.cell? ⟨gb293, 1, none⟩ = some (.int .u64 0) := (blk_cell BK293.out 1).trans rfl
              have hfz46_0 := blk_frozen BK293.out 0
              have hfz46_1 := blk_frozen BK293.out 1
              have hnb47 := NB282_283.out
              have hnc47 := NB283_282.out
              have hnb48 := NB282_284.out
              have hnc48 := NB284_282.out
              have hcz49_0 : w28.cell? ⟨gb282, 0, none⟩ = some (.int .u64 t285) := (blk_cell BK282.out 0).trans rfl
              have hcz49_1 : w28.cell? ⟨gb282, 1, none⟩ = some (.int .u64 t286) := (blk_cell BK282.out 1).trans rfl
              have hfz49_0 := blk_frozen BK282.out 0
              have hfz49_1 := blk_frozen BK282.out 1
              go_wp2_with (first | (go_at_call 13; (with_reducible refine (tnum_Within.calls t285 t286 t291 t292 true _ A34.out).mono ?_); rintro e w50 ⟨rfl, hb⟩; have n0_ := Aside0.mk (blk_below (g := gb282) (o := .cells #[.int .u64 t285, .int .u64 t286] 24 (0, 0)) (by (with_reducible repeat (first | apply bN_17 | apply bD_17 | apply bA_17)); refine blk_far ?_ NB282_293.out _; (with_reducible repeat (first | apply bN_17 | apply bD_17 | apply bA_17)); refine blk_far ?_ NB282_293.out _; (with_reducible repeat (first | apply bN_17 | apply bD_17 | apply bA_17)); exact BK282.out) hb); have n1_ := Aside0.mk (blk_below (g := gb283) (o := .cells #[.int .u64 t287, .int .u64 t288] 24 (0, 0)) (by (with_reducible repeat (first | apply bN_17 | apply bD_17 | apply bA_17)); refine blk_far ?_ NB283_293.out _; (with_reducible repeat (first | apply bN_17 | apply bD_17 | apply bA_17)); refine blk_far ?_ NB283_293.out _; (with_reducible repeat (first | apply bN_17 | apply bD_17 | apply bA_17)); exact BK283.out) hb); have n2_ := Aside0.mk (blk_below (g := gb284) (o := .cells #[.int .u64 t289, .int .u64 t290] 24 (0, 0)) (by (with_reducible repeat (first | apply bN_17 | apply bD_17 | apply bA_17)); refine blk_far ?_ NB284_293.out _; (with_reducible repeat (first | apply bN_17 | apply bD_17 | apply bA_17)); refine blk_far ?_ NB284_293.out _; (with_reducible repeat (first | apply bN_17 | apply bD_17 | apply bA_17)); exact BK284.out) hb); have n3_ := Aside0.mk (blk_below (g := gb293) (o := .cells #[.int .u64 t291, .int .u64 t292] 24 (0, 0)) (by (with_reducible repeat (first | apply bN_17 | apply bD_17 | apply bA_17)); refine blk_put (cs := #[.int .u64 t291, .int .u64 0]) ?_ 1 _ rfl; (with_reducible repeat (first | apply bN_17 | apply bD_17 | apply bA_17)); refine blk_put (cs := #[.int .u64 0, .int .u64 0]) ?_ 0 _ rfl; (with_reducible repeat (first | apply bN_17 | apply bD_17 | apply bA_17)); exact BK293.out) hb); have n4_ := Aside0.mk (below_step (by repeat (first | (with_reducible first | exact HB.out | apply lA_17 | apply lN_17 | apply lD_17 | refine lS_17 ?_ GE282.out | refine lS_17 ?_ GE283.out | refine lS_17 ?_ GE284.out | refine lS_17 ?_ GE293.out) | exact HB.out)) hb); clear BK282; clear BK283; clear BK284; clear BK293; clear HB; have BK282 := n0_; have BK283 := n1_; have BK284 := n2_; have BK293 := n3_; have HB := n4_; clear n0_ n1_ n2_ n3_ n4_; (try clear hb); (try clear hb2); (try clear hk); (try clear hi); have hnb51 := NB283_284.out; have hnc51 := NB284_283.out; have hcz52_0 : w50.cell? ⟨gb283, 0, none⟩ = some (.int .u64 t287) := (blk_cell BK283.out 0).trans rfl; have hcz52_1 : w50.cell? ⟨gb283, 1, none⟩ = some (.int .u64 t288) := (blk_cell BK283.out 1).trans rfl; have hfz52_0 := blk_frozen BK283.out 0; have hfz52_1 := blk_frozen BK283.out 1; have hcz53_0 : w50.cell? ⟨gb293, 0, none⟩ = some (.int .u64 t291) := (blk_cell BK293.out 0).trans rfl; have hcz53_1 : w50.cell? ⟨gb293, 1, none⟩ = some (.int .u64 t292) := (blk_cell BK293.out 1).trans rfl; have hfz53_0 := blk_frozen BK293.out 0; have hfz53_1 := blk_frozen BK293.out 1) | (go_at_call 13; (with_reducible refine (tnum_Within.calls t287 t288 t291 t292 true _ A36.out).mono ?_); rintro e w54 ⟨rfl, hb⟩; have n0_ := Aside0.mk (blk_below (g := gb282) (o := .cells #[.int .u64 t285, .int .u64 t286] 24 (0, 0)) (by (with_reducible repeat (first | apply bN_17 | apply bD_17 | apply bA_17)); exact BK282.out) hb); have n1_ := Aside0.mk (blk_below (g := gb283) (o := .cells #[.int .u64 t287, .int .u64 t288] 24 (0, 0)) (by (with_reducible repeat (first | apply bN_17 | apply bD_17 | apply bA_17)); exact BK283.out) hb); have n2_ := Aside0.mk (blk_below (g := gb284) (o := .cells #[.int .u64 t289, .int .u64 t290] 24 (0, 0)) (by (with_reducible repeat (first | apply bN_17 | apply bD_17 | apply bA_17)); exact BK284.out) hb); have n3_ := Aside0.mk (blk_below (g := gb293) (o := .cells #[.int .u64 t291, .int .u64 t292] 24 (0, 0)) (by (with_reducible repeat (first | apply bN_17 | apply bD_17 | apply bA_17)); exact BK293.out) hb); have n4_ := Aside0.mk (below_step (by repeat (first | (with_reducible first | exact HB.out | apply lA_17 | apply lN_17 | apply lD_17 | refine lS_17 ?_ GE282.out | refine lS_17 ?_ GE283.out | refine lS_17 ?_ GE284.out | refine lS_17 ?_ GE293.out) | exact HB.out)) hb); clear BK282; clear BK283; clear BK284; clear BK293; clear HB; have BK282 := n0_; have BK283 := n1_; have BK284 := n2_; have BK293 := n3_; have HB := n4_; clear n0_ n1_ n2_ n3_ n4_; (try clear hb); (try clear hb2); (try clear hk); (try clear hi); have hcz55_0 : w54.cell? ⟨gb282, 0, none⟩ = some (.int .u64 t285) := (blk_cell BK282.out 0).trans rfl; have hcz55_1 : w54.cell? ⟨gb282, 1, none⟩ = some (.int .u64 t286) := (blk_cell BK282.out 1).trans rfl; have hfz55_0 := blk_frozen BK282.out 0; have hfz55_1 := blk_frozen BK282.out 1; have hcz56_0 : w54.cell? ⟨gb284, 0, none⟩ = some (.int .u64 t289) := (blk_cell BK284.out 0).trans rfl; have hcz56_1 : w54.cell? ⟨gb284, 1, none⟩ = some (.int .u64 t290) := (blk_cell BK284.out 1).trans rfl; have hfz56_0 := blk_frozen BK284.out 0; have hfz56_1 := blk_frozen BK284.out 1) | (go_at_call 13; (with_reducible refine (tnum_Within.calls t285 t286 t289 t290 true _ A38.out).mono ?_); rintro e w57 ⟨rfl, hb⟩; have n0_ := Aside0.mk (blk_below (g := gb282) (o := .cells #[.int .u64 t285, .int .u64 t286] 24 (0, 0)) (by (with_reducible repeat (first | apply bN_17 | apply bD_17 | apply bA_17)); exact BK282.out) hb); have n1_ := Aside0.mk (blk_below (g := gb283) (o := .cells #[.int .u64 t287, .int .u64 t288] 24 (0, 0)) (by (with_reducible repeat (first | apply bN_17 | apply bD_17 | apply bA_17)); exact BK283.out) hb); have n2_ := Aside0.mk (blk_below (g := gb284) (o := .cells #[.int .u64 t289, .int .u64 t290] 24 (0, 0)) (by (with_reducible repeat (first | apply bN_17 | apply bD_17 | apply bA_17)); exact BK284.out) hb); have n3_ := Aside0.mk (blk_below (g := gb293) (o := .cells #[.int .u64 t291, .int .u64 t292] 24 (0, 0)) (by (with_reducible repeat (first | apply bN_17 | apply bD_17 | apply bA_17)); exact BK293.out) hb); have n4_ := Aside0.mk (below_step (by repeat (first | (with_reducible first | exact HB.out | apply lA_17 | apply lN_17 | apply lD_17 | refine lS_17 ?_ GE282.out | refine lS_17 ?_ GE283.out | refine lS_17 ?_ GE284.out | refine lS_17 ?_ GE293.out) | exact HB.out)) hb); clear BK282; clear BK283; clear BK284; clear BK293; clear HB; have BK282 := n0_; have BK283 := n1_; have BK284 := n2_; have BK293 := n3_; have HB := n4_; clear n0_ n1_ n2_ n3_ n4_; (try clear hb); (try clear hb2); (try clear hk); (try clear hi); have hcz58_0 : w57.cell? ⟨gb283, 0, none⟩ = some (.int .u64 t287) := (blk_cell BK283.out 0).trans rfl; have hcz58_1 : w57.cell? ⟨gb283, 1, none⟩ = some (.int .u64 t288) := (blk_cell BK283.out 1).trans rfl; have hfz58_0 := blk_frozen BK283.out 0; have hfz58_1 := blk_frozen BK283.out 1; have hcz59_0 : w57.cell? ⟨gb284, 0, none⟩ = some (.int .u64 t289) := (blk_cell BK284.out 0).trans rfl; have hcz59_1 : w57.cell? ⟨gb284, 1, none⟩ = some (.int .u64 t290) := (blk_cell BK284.out 1).trans rfl; have hfz59_0 := blk_frozen BK284.out 0; have hfz59_1 := blk_frozen BK284.out 1) | (go_at_call 13; (with_reducible refine (tnum_Within.calls t287 t288 t289 t290 true _ A40.out).mono ?_); rintro e w60 ⟨rfl, hb⟩; have n0_ := Aside0.mk (blk_below (g := gb282) (o := .cells #[.int .u64 t285, .int .u64 t286] 24 (0, 0)) (by (with_reducible repeat (first | apply bN_17 | apply bD_17 | apply bA_17)); exact BK282.out) hb); have n1_ := Aside0.mk (blk_below (g := gb283) (o := .cells #[.int .u64 t287, .int .u64 t288] 24 (0, 0)) (by (with_reducible repeat (first | apply bN_17 | apply bD_17 | apply bA_17)); exact BK283.out) hb); have n2_ := Aside0.mk (blk_below (g := gb284) (o := .cells #[.int .u64 t289, .int .u64 t290] 24 (0, 0)) (by (with_reducible repeat (first | apply bN_17 | apply bD_17 | apply bA_17)); exact BK284.out) hb); have n3_ := Aside0.mk (blk_below (g := gb293) (o := .cells #[.int .u64 t291, .int .u64 t292] 24 (0, 0)) (by (with_reducible repeat (first | apply bN_17 | apply bD_17 | apply bA_17)); exact BK293.out) hb); have n4_ := Aside0.mk (below_step (by repeat (first | (with_reducible first | exact HB.out | apply lA_17 | apply lN_17 | apply lD_17 | refine lS_17 ?_ GE282.out | refine lS_17 ?_ GE283.out | refine lS_17 ?_ GE284.out | refine lS_17 ?_ GE293.out) | exact HB.out)) hb); clear BK282; clear BK283; clear BK284; clear BK293; clear HB; have BK282 := n0_; have BK283 := n1_; have BK284 := n2_; have BK293 := n3_; have HB := n4_; clear n0_ n1_ n2_ n3_ n4_; (try clear hb); (try clear hb2); (try clear hk); (try clear hi); have hcz61_0 : w60.cell? ⟨gb293, 0, none⟩ = some (.int .u64 t291) := (blk_cell BK293.out 0).trans rfl; have hcz61_1 : w60.cell? ⟨gb293, 1, none⟩ = some (.int .u64 t292) := (blk_cell BK293.out 1).trans rfl; have hfz61_0 := blk_frozen BK293.out 0; have hfz61_1 := blk_frozen BK293.out 1; have hcz62_0 : w60.cell? ⟨gb284, 0, none⟩ = some (.int .u64 t289) := (blk_cell BK284.out 0).trans rfl; have hcz62_1 : w60.cell? ⟨gb284, 1, none⟩ = some (.int .u64 t290) := (blk_cell BK284.out 1).trans rfl; have hfz62_0 := blk_frozen BK284.out 0; have hfz62_1 := blk_frozen BK284.out 1) | (go_at_call 13; (with_reducible refine (tnum_Within.calls t291 t292 t289 t290 t298 _ A42.out).mono ?_); rintro e w63 ⟨rfl, hb⟩; have n0_ := Aside0.mk (blk_below (g := gb282) (o := .cells #[.int .u64 t285, .int .u64 t286] 24 (0, 0)) (by (with_reducible repeat (first | apply bN_17 | apply bD_17 | apply bA_17)); exact BK282.out) hb); have n1_ := Aside0.mk (blk_below (g := gb283) (o := .cells #[.int .u64 t287, .int .u64 t288] 24 (0, 0)) (by (with_reducible repeat (first | apply bN_17 | apply bD_17 | apply bA_17)); exact BK283.out) hb); have n2_ := Aside0.mk (blk_below (g := gb284) (o := .cells #[.int .u64 t289, .int .u64 t290] 24 (0, 0)) (by (with_reducible repeat (first | apply bN_17 | apply bD_17 | apply bA_17)); exact BK284.out) hb); have n3_ := Aside0.mk (blk_below (g := gb293) (o := .cells #[.int .u64 t291, .int .u64 t292] 24 (0, 0)) (by (with_reducible repeat (first | apply bN_17 | apply bD_17 | apply bA_17)); exact BK293.out) hb); have n4_ := Aside0.mk (below_step (by repeat (first | (with_reducible first | exact HB.out | apply lA_17 | apply lN_17 | apply lD_17 | refine lS_17 ?_ GE282.out | refine lS_17 ?_ GE283.out | refine lS_17 ?_ GE284.out | refine lS_17 ?_ GE293.out) | exact HB.out)) hb); clear BK282; clear BK283; clear BK284; clear BK293; clear HB; have BK282 := n0_; have BK283 := n1_; have BK284 := n2_; have BK293 := n3_; have HB := n4_; clear n0_ n1_ n2_ n3_ n4_; (try clear hb); (try clear hb2); (try clear hk); (try clear hi)))
              go_meet
              case rel => exact ⟨_, (!t298), (by first | rfl | (simp; done) | (simp [*]; done)), H', ⟨by first | omega | exact Nat.le_refl _⟩, ⟨by (with_reducible repeat (first | apply bN_17 | apply bD_17 | apply bA_17)); exact BK282.out⟩, ⟨by (with_reducible repeat (first | apply bN_17 | apply bD_17 | apply bA_17)); exact BK283.out⟩, ⟨by (with_reducible repeat (first | apply bN_17 | apply bD_17 | apply bA_17)); exact BK284.out⟩, ⟨by (with_reducible repeat (first | apply bN_17 | apply bD_17 | apply bA_17)); exact BK293.out⟩, ⟨by repeat (first | (with_reducible first | exact HB.out | apply lA_17 | apply lN_17 | apply lD_17 | refine lS_17 ?_ GE282.out | refine lS_17 ?_ GE283.out | refine lS_17 ?_ GE284.out | refine lS_17 ?_ GE293.out) | exact HB.out)⟩⟩
            · replace c41 := Bool.eq_false_iff.mpr c41
              subst c41
              have H1 : (lockgatelaw03_TnumLattice.j0 k a3 false t285 t286 t287 t288) = some r := by rw [if_neg (show ¬ (false = true) by decide)] at H; exact H
              clear H
              have H := H1
              clear H1
              have H' := Aside0.mk H
              clear H
              have hnb64 := NB293_282.out
              have hnc64 := NB282_293.out
              have hnb65 := NB293_283.out
              have hnc65 := NB283_293.out
              have hnb66 := NB293_284.out
              have hnc66 := NB284_293.out
              have hcz67_0 : w28.cell? ⟨gb293, 0, none⟩ = some (.int .u64 0) := (blk_cell BK293.out 0).trans rfl
              have hcz67_1 : w28.cell? ⟨gb293, 1, none⟩ = some (.int .u64 0) := (blk_cell BK293.out 1).trans rfl
              have hfz67_0 := blk_frozen BK293.out 0
              have hfz67_1 := blk_frozen BK293.out 1
              have hnb68 := NB282_283.out
              have hnc68 := NB283_282.out
              have hnb69 := NB282_284.out
              have hnc69 := NB284_282.out
              have hcz70_0 : w28.cell? ⟨gb282, 0, none⟩ = some (.int .u64 t285) := (blk_cell BK282.out 0).trans rfl
              have hcz70_1 : w28.cell? ⟨gb282, 1, none⟩ = some (.int .u64 t286) := (blk_cell BK282.out 1).trans rfl
              have hfz70_0 := blk_frozen BK282.out 0
              have hfz70_1 := blk_frozen BK282.out 1
              go_wp2_with (first | (go_at_call 13; (with_reducible refine (tnum_Within.calls t285 t286 t291 t292 true _ A34.out).mono ?_); rintro e w71 ⟨rfl, hb⟩; have n0_ := Aside0.mk (blk_below (g := gb282) (o := .cells #[.int .u64 t285, .int .u64 t286] 24 (0, 0)) (by (with_reducible repeat (first | apply bN_17 | apply bD_17 | apply bA_17)); refine blk_far ?_ NB282_293.out _; (with_reducible repeat (first | apply bN_17 | apply bD_17 | apply bA_17)); refine blk_far ?_ NB282_293.out _; (with_reducible repeat (first | apply bN_17 | apply bD_17 | apply bA_17)); exact BK282.out) hb); have n1_ := Aside0.mk (blk_below (g := gb283) (o := .cells #[.int .u64 t287, .int .u64 t288] 24 (0, 0)) (by (with_reducible repeat (first | apply bN_17 | apply bD_17 | apply bA_17)); refine blk_far ?_ NB283_293.out _; (with_reducible repeat (first | apply bN_17 | apply bD_17 | apply bA_17)); refine blk_far ?_ NB283_293.out _; (with_reducible repeat (first | apply bN_17 | apply bD_17 | apply bA_17)); exact BK283.out) hb); have n2_ := Aside0.mk (blk_below (g := gb284) (o := .cells #[.int .u64 t289, .int .u64 t290] 24 (0, 0)) (by (with_reducible repeat (first | apply bN_17 | apply bD_17 | apply bA_17)); refine blk_far ?_ NB284_293.out _; (with_reducible repeat (first | apply bN_17 | apply bD_17 | apply bA_17)); refine blk_far ?_ NB284_293.out _; (with_reducible repeat (first | apply bN_17 | apply bD_17 | apply bA_17)); exact BK284.out) hb); have n3_ := Aside0.mk (blk_below (g := gb293) (o := .cells #[.int .u64 t291, .int .u64 t292] 24 (0, 0)) (by (with_reducible repeat (first | apply bN_17 | apply bD_17 | apply bA_17)); refine blk_put (cs := #[.int .u64 t291, .int .u64 0]) ?_ 1 _ rfl; (with_reducible repeat (first | apply bN_17 | apply bD_17 | apply bA_17)); refine blk_put (cs := #[.int .u64 0, .int .u64 0]) ?_ 0 _ rfl; (with_reducible repeat (first | apply bN_17 | apply bD_17 | apply bA_17)); exact BK293.out) hb); have n4_ := Aside0.mk (below_step (by repeat (first | (with_reducible first | exact HB.out | apply lA_17 | apply lN_17 | apply lD_17 | refine lS_17 ?_ GE282.out | refine lS_17 ?_ GE283.out | refine lS_17 ?_ GE284.out | refine lS_17 ?_ GE293.out) | exact HB.out)) hb); clear BK282; clear BK283; clear BK284; clear BK293; clear HB; have BK282 := n0_; have BK283 := n1_; have BK284 := n2_; have BK293 := n3_; have HB := n4_; clear n0_ n1_ n2_ n3_ n4_; (try clear hb); (try clear hb2); (try clear hk); (try clear hi); have hnb72 := NB283_284.out; have hnc72 := NB284_283.out; have hcz73_0 : w71.cell? ⟨gb283, 0, none⟩ = some (.int .u64 t287) := (blk_cell BK283.out 0).trans rfl; have hcz73_1 : w71.cell? ⟨gb283, 1, none⟩ = some (.int .u64 t288) := (blk_cell BK283.out 1).trans rfl; have hfz73_0 := blk_frozen BK283.out 0; have hfz73_1 := blk_frozen BK283.out 1; have hcz74_0 : w71.cell? ⟨gb293, 0, none⟩ = some (.int .u64 t291) := (blk_cell BK293.out 0).trans rfl; have hcz74_1 : w71.cell? ⟨gb293, 1, none⟩ = some (.int .u64 t292) := (blk_cell BK293.out 1).trans rfl; have hfz74_0 := blk_frozen BK293.out 0; have hfz74_1 := blk_frozen BK293.out 1) | (go_at_call 13; (with_reducible refine (tnum_Within.calls t287 t288 t291 t292 true _ A36.out).mono ?_); rintro e w75 ⟨rfl, hb⟩; have n0_ := Aside0.mk (blk_below (g := gb282) (o := .cells #[.int .u64 t285, .int .u64 t286] 24 (0, 0)) (by (with_reducible repeat (first | apply bN_17 | apply bD_17 | apply bA_17)); exact BK282.out) hb); have n1_ := Aside0.mk (blk_below (g := gb283) (o := .cells #[.int .u64 t287, .int .u64 t288] 24 (0, 0)) (by (with_reducible repeat (first | apply bN_17 | apply bD_17 | apply bA_17)); exact BK283.out) hb); have n2_ := Aside0.mk (blk_below (g := gb284) (o := .cells #[.int .u64 t289, .int .u64 t290] 24 (0, 0)) (by (with_reducible repeat (first | apply bN_17 | apply bD_17 | apply bA_17)); exact BK284.out) hb); have n3_ := Aside0.mk (blk_below (g := gb293) (o := .cells #[.int .u64 t291, .int .u64 t292] 24 (0, 0)) (by (with_reducible repeat (first | apply bN_17 | apply bD_17 | apply bA_17)); exact BK293.out) hb); have n4_ := Aside0.mk (below_step (by repeat (first | (with_reducible first | exact HB.out | apply lA_17 | apply lN_17 | apply lD_17 | refine lS_17 ?_ GE282.out | refine lS_17 ?_ GE283.out | refine lS_17 ?_ GE284.out | refine lS_17 ?_ GE293.out) | exact HB.out)) hb); clear BK282; clear BK283; clear BK284; clear BK293; clear HB; have BK282 := n0_; have BK283 := n1_; have BK284 := n2_; have BK293 := n3_; have HB := n4_; clear n0_ n1_ n2_ n3_ n4_; (try clear hb); (try clear hb2); (try clear hk); (try clear hi); have hcz76_0 : w75.cell? ⟨gb282, 0, none⟩ = some (.int .u64 t285) := (blk_cell BK282.out 0).trans rfl; have hcz76_1 : w75.cell? ⟨gb282, 1, none⟩ = some (.int .u64 t286) := (blk_cell BK282.out 1).trans rfl; have hfz76_0 := blk_frozen BK282.out 0; have hfz76_1 := blk_frozen BK282.out 1; have hcz77_0 : w75.cell? ⟨gb284, 0, none⟩ = some (.int .u64 t289) := (blk_cell BK284.out 0).trans rfl; have hcz77_1 : w75.cell? ⟨gb284, 1, none⟩ = some (.int .u64 t290) := (blk_cell BK284.out 1).trans rfl; have hfz77_0 := blk_frozen BK284.out 0; have hfz77_1 := blk_frozen BK284.out 1) | (go_at_call 13; (with_reducible refine (tnum_Within.calls t285 t286 t289 t290 true _ A38.out).mono ?_); rintro e w78 ⟨rfl, hb⟩; have n0_ := Aside0.mk (blk_below (g := gb282) (o := .cells #[.int .u64 t285, .int .u64 t286] 24 (0, 0)) (by (with_reducible repeat (first | apply bN_17 | apply bD_17 | apply bA_17)); exact BK282.out) hb); have n1_ := Aside0.mk (blk_below (g := gb283) (o := .cells #[.int .u64 t287, .int .u64 t288] 24 (0, 0)) (by (with_reducible repeat (first | apply bN_17 | apply bD_17 | apply bA_17)); exact BK283.out) hb); have n2_ := Aside0.mk (blk_below (g := gb284) (o := .cells #[.int .u64 t289, .int .u64 t290] 24 (0, 0)) (by (with_reducible repeat (first | apply bN_17 | apply bD_17 | apply bA_17)); exact BK284.out) hb); have n3_ := Aside0.mk (blk_below (g := gb293) (o := .cells #[.int .u64 t291, .int .u64 t292] 24 (0, 0)) (by (with_reducible repeat (first | apply bN_17 | apply bD_17 | apply bA_17)); exact BK293.out) hb); have n4_ := Aside0.mk (below_step (by repeat (first | (with_reducible first | exact HB.out | apply lA_17 | apply lN_17 | apply lD_17 | refine lS_17 ?_ GE282.out | refine lS_17 ?_ GE283.out | refine lS_17 ?_ GE284.out | refine lS_17 ?_ GE293.out) | exact HB.out)) hb); clear BK282; clear BK283; clear BK284; clear BK293; clear HB; have BK282 := n0_; have BK283 := n1_; have BK284 := n2_; have BK293 := n3_; have HB := n4_; clear n0_ n1_ n2_ n3_ n4_; (try clear hb); (try clear hb2); (try clear hk); (try clear hi); have hcz79_0 : w78.cell? ⟨gb283, 0, none⟩ = some (.int .u64 t287) := (blk_cell BK283.out 0).trans rfl; have hcz79_1 : w78.cell? ⟨gb283, 1, none⟩ = some (.int .u64 t288) := (blk_cell BK283.out 1).trans rfl; have hfz79_0 := blk_frozen BK283.out 0; have hfz79_1 := blk_frozen BK283.out 1; have hcz80_0 : w78.cell? ⟨gb284, 0, none⟩ = some (.int .u64 t289) := (blk_cell BK284.out 0).trans rfl; have hcz80_1 : w78.cell? ⟨gb284, 1, none⟩ = some (.int .u64 t290) := (blk_cell BK284.out 1).trans rfl; have hfz80_0 := blk_frozen BK284.out 0; have hfz80_1 := blk_frozen BK284.out 1) | (go_at_call 13; (with_reducible refine (tnum_Within.calls t287 t288 t289 t290 false _ A40.out).mono ?_); rintro e w81 ⟨rfl, hb⟩; have n0_ := Aside0.mk (blk_below (g := gb282) (o := .cells #[.int .u64 t285, .int .u64 t286] 24 (0, 0)) (by (with_reducible repeat (first | apply bN_17 | apply bD_17 | apply bA_17)); exact BK282.out) hb); have n1_ := Aside0.mk (blk_below (g := gb283) (o := .cells #[.int .u64 t287, .int .u64 t288] 24 (0, 0)) (by (with_reducible repeat (first | apply bN_17 | apply bD_17 | apply bA_17)); exact BK283.out) hb); have n2_ := Aside0.mk (blk_below (g := gb284) (o := .cells #[.int .u64 t289, .int .u64 t290] 24 (0, 0)) (by (with_reducible repeat (first | apply bN_17 | apply bD_17 | apply bA_17)); exact BK284.out) hb); have n3_ := Aside0.mk (blk_below (g := gb293) (o := .cells #[.int .u64 t291, .int .u64 t292] 24 (0, 0)) (by (with_reducible repeat (first | apply bN_17 | apply bD_17 | apply bA_17)); exact BK293.out) hb); have n4_ := Aside0.mk (below_step (by repeat (first | (with_reducible first | exact HB.out | apply lA_17 | apply lN_17 | apply lD_17 | refine lS_17 ?_ GE282.out | refine lS_17 ?_ GE283.out | refine lS_17 ?_ GE284.out | refine lS_17 ?_ GE293.out) | exact HB.out)) hb); clear BK282; clear BK283; clear BK284; clear BK293; clear HB; have BK282 := n0_; have BK283 := n1_; have BK284 := n2_; have BK293 := n3_; have HB := n4_; clear n0_ n1_ n2_ n3_ n4_; (try clear hb); (try clear hb2); (try clear hk); (try clear hi)))
              go_meet
              case rel => exact ⟨_, (false), (by first | rfl | (simp; done) | (simp [*]; done)), H', ⟨by first | omega | exact Nat.le_refl _⟩, ⟨by (with_reducible repeat (first | apply bN_17 | apply bD_17 | apply bA_17)); exact BK282.out⟩, ⟨by (with_reducible repeat (first | apply bN_17 | apply bD_17 | apply bA_17)); exact BK283.out⟩, ⟨by (with_reducible repeat (first | apply bN_17 | apply bD_17 | apply bA_17)); exact BK284.out⟩, ⟨by (with_reducible repeat (first | apply bN_17 | apply bD_17 | apply bA_17)); exact BK293.out⟩, ⟨by repeat (first | (with_reducible first | exact HB.out | apply lA_17 | apply lN_17 | apply lD_17 | refine lS_17 ?_ GE282.out | refine lS_17 ?_ GE283.out | refine lS_17 ?_ GE284.out | refine lS_17 ?_ GE293.out) | exact HB.out)⟩⟩
          · replace c39 := Bool.eq_false_iff.mpr c39
            subst c39
            have H1 : (lockgatelaw03_TnumLattice.j0 k a3 false t285 t286 t287 t288) = some r := by rw [if_neg (show ¬ (false = true) by decide)] at H; exact H
            clear H
            have H := H1
            clear H1
            have H' := Aside0.mk H
            clear H
            have hnb82 := NB293_282.out
            have hnc82 := NB282_293.out
            have hnb83 := NB293_283.out
            have hnc83 := NB283_293.out
            have hnb84 := NB293_284.out
            have hnc84 := NB284_293.out
            have hcz85_0 : w28.cell? ⟨gb293, 0, none⟩ = some (.int .u64 0) := (blk_cell BK293.out 0).trans rfl
            have hcz85_1 : w28.cell? ⟨gb293, 1, none⟩ = some (.int .u64 0) := (blk_cell BK293.out 1).trans rfl
            have hfz85_0 := blk_frozen BK293.out 0
            have hfz85_1 := blk_frozen BK293.out 1
            have hnb86 := NB282_283.out
            have hnc86 := NB283_282.out
            have hnb87 := NB282_284.out
            have hnc87 := NB284_282.out
            have hcz88_0 : w28.cell? ⟨gb282, 0, none⟩ = some (.int .u64 t285) := (blk_cell BK282.out 0).trans rfl
            have hcz88_1 : w28.cell? ⟨gb282, 1, none⟩ = some (.int .u64 t286) := (blk_cell BK282.out 1).trans rfl
            have hfz88_0 := blk_frozen BK282.out 0
            have hfz88_1 := blk_frozen BK282.out 1
            go_wp2_with (first | (go_at_call 13; (with_reducible refine (tnum_Within.calls t285 t286 t291 t292 true _ A34.out).mono ?_); rintro e w89 ⟨rfl, hb⟩; have n0_ := Aside0.mk (blk_below (g := gb282) (o := .cells #[.int .u64 t285, .int .u64 t286] 24 (0, 0)) (by (with_reducible repeat (first | apply bN_17 | apply bD_17 | apply bA_17)); refine blk_far ?_ NB282_293.out _; (with_reducible repeat (first | apply bN_17 | apply bD_17 | apply bA_17)); refine blk_far ?_ NB282_293.out _; (with_reducible repeat (first | apply bN_17 | apply bD_17 | apply bA_17)); exact BK282.out) hb); have n1_ := Aside0.mk (blk_below (g := gb283) (o := .cells #[.int .u64 t287, .int .u64 t288] 24 (0, 0)) (by (with_reducible repeat (first | apply bN_17 | apply bD_17 | apply bA_17)); refine blk_far ?_ NB283_293.out _; (with_reducible repeat (first | apply bN_17 | apply bD_17 | apply bA_17)); refine blk_far ?_ NB283_293.out _; (with_reducible repeat (first | apply bN_17 | apply bD_17 | apply bA_17)); exact BK283.out) hb); have n2_ := Aside0.mk (blk_below (g := gb284) (o := .cells #[.int .u64 t289, .int .u64 t290] 24 (0, 0)) (by (with_reducible repeat (first | apply bN_17 | apply bD_17 | apply bA_17)); refine blk_far ?_ NB284_293.out _; (with_reducible repeat (first | apply bN_17 | apply bD_17 | apply bA_17)); refine blk_far ?_ NB284_293.out _; (with_reducible repeat (first | apply bN_17 | apply bD_17 | apply bA_17)); exact BK284.out) hb); have n3_ := Aside0.mk (blk_below (g := gb293) (o := .cells #[.int .u64 t291, .int .u64 t292] 24 (0, 0)) (by (with_reducible repeat (first | apply bN_17 | apply bD_17 | apply bA_17)); refine blk_put (cs := #[.int .u64 t291, .int .u64 0]) ?_ 1 _ rfl; (with_reducible repeat (first | apply bN_17 | apply bD_17 | apply bA_17)); refine blk_put (cs := #[.int .u64 0, .int .u64 0]) ?_ 0 _ rfl; (with_reducible repeat (first | apply bN_17 | apply bD_17 | apply bA_17)); exact BK293.out) hb); have n4_ := Aside0.mk (below_step (by repeat (first | (with_reducible first | exact HB.out | apply lA_17 | apply lN_17 | apply lD_17 | refine lS_17 ?_ GE282.out | refine lS_17 ?_ GE283.out | refine lS_17 ?_ GE284.out | refine lS_17 ?_ GE293.out) | exact HB.out)) hb); clear BK282; clear BK283; clear BK284; clear BK293; clear HB; have BK282 := n0_; have BK283 := n1_; have BK284 := n2_; have BK293 := n3_; have HB := n4_; clear n0_ n1_ n2_ n3_ n4_; (try clear hb); (try clear hb2); (try clear hk); (try clear hi); have hnb90 := NB283_284.out; have hnc90 := NB284_283.out; have hcz91_0 : w89.cell? ⟨gb283, 0, none⟩ = some (.int .u64 t287) := (blk_cell BK283.out 0).trans rfl; have hcz91_1 : w89.cell? ⟨gb283, 1, none⟩ = some (.int .u64 t288) := (blk_cell BK283.out 1).trans rfl; have hfz91_0 := blk_frozen BK283.out 0; have hfz91_1 := blk_frozen BK283.out 1; have hcz92_0 : w89.cell? ⟨gb293, 0, none⟩ = some (.int .u64 t291) := (blk_cell BK293.out 0).trans rfl; have hcz92_1 : w89.cell? ⟨gb293, 1, none⟩ = some (.int .u64 t292) := (blk_cell BK293.out 1).trans rfl; have hfz92_0 := blk_frozen BK293.out 0; have hfz92_1 := blk_frozen BK293.out 1) | (go_at_call 13; (with_reducible refine (tnum_Within.calls t287 t288 t291 t292 true _ A36.out).mono ?_); rintro e w93 ⟨rfl, hb⟩; have n0_ := Aside0.mk (blk_below (g := gb282) (o := .cells #[.int .u64 t285, .int .u64 t286] 24 (0, 0)) (by (with_reducible repeat (first | apply bN_17 | apply bD_17 | apply bA_17)); exact BK282.out) hb); have n1_ := Aside0.mk (blk_below (g := gb283) (o := .cells #[.int .u64 t287, .int .u64 t288] 24 (0, 0)) (by (with_reducible repeat (first | apply bN_17 | apply bD_17 | apply bA_17)); exact BK283.out) hb); have n2_ := Aside0.mk (blk_below (g := gb284) (o := .cells #[.int .u64 t289, .int .u64 t290] 24 (0, 0)) (by (with_reducible repeat (first | apply bN_17 | apply bD_17 | apply bA_17)); exact BK284.out) hb); have n3_ := Aside0.mk (blk_below (g := gb293) (o := .cells #[.int .u64 t291, .int .u64 t292] 24 (0, 0)) (by (with_reducible repeat (first | apply bN_17 | apply bD_17 | apply bA_17)); exact BK293.out) hb); have n4_ := Aside0.mk (below_step (by repeat (first | (with_reducible first | exact HB.out | apply lA_17 | apply lN_17 | apply lD_17 | refine lS_17 ?_ GE282.out | refine lS_17 ?_ GE283.out | refine lS_17 ?_ GE284.out | refine lS_17 ?_ GE293.out) | exact HB.out)) hb); clear BK282; clear BK283; clear BK284; clear BK293; clear HB; have BK282 := n0_; have BK283 := n1_; have BK284 := n2_; have BK293 := n3_; have HB := n4_; clear n0_ n1_ n2_ n3_ n4_; (try clear hb); (try clear hb2); (try clear hk); (try clear hi); have hcz94_0 : w93.cell? ⟨gb282, 0, none⟩ = some (.int .u64 t285) := (blk_cell BK282.out 0).trans rfl; have hcz94_1 : w93.cell? ⟨gb282, 1, none⟩ = some (.int .u64 t286) := (blk_cell BK282.out 1).trans rfl; have hfz94_0 := blk_frozen BK282.out 0; have hfz94_1 := blk_frozen BK282.out 1; have hcz95_0 : w93.cell? ⟨gb284, 0, none⟩ = some (.int .u64 t289) := (blk_cell BK284.out 0).trans rfl; have hcz95_1 : w93.cell? ⟨gb284, 1, none⟩ = some (.int .u64 t290) := (blk_cell BK284.out 1).trans rfl; have hfz95_0 := blk_frozen BK284.out 0; have hfz95_1 := blk_frozen BK284.out 1) | (go_at_call 13; (with_reducible refine (tnum_Within.calls t285 t286 t289 t290 false _ A38.out).mono ?_); rintro e w96 ⟨rfl, hb⟩; have n0_ := Aside0.mk (blk_below (g := gb282) (o := .cells #[.int .u64 t285, .int .u64 t286] 24 (0, 0)) (by (with_reducible repeat (first | apply bN_17 | apply bD_17 | apply bA_17)); exact BK282.out) hb); have n1_ := Aside0.mk (blk_below (g := gb283) (o := .cells #[.int .u64 t287, .int .u64 t288] 24 (0, 0)) (by (with_reducible repeat (first | apply bN_17 | apply bD_17 | apply bA_17)); exact BK283.out) hb); have n2_ := Aside0.mk (blk_below (g := gb284) (o := .cells #[.int .u64 t289, .int .u64 t290] 24 (0, 0)) (by (with_reducible repeat (first | apply bN_17 | apply bD_17 | apply bA_17)); exact BK284.out) hb); have n3_ := Aside0.mk (blk_below (g := gb293) (o := .cells #[.int .u64 t291, .int .u64 t292] 24 (0, 0)) (by (with_reducible repeat (first | apply bN_17 | apply bD_17 | apply bA_17)); exact BK293.out) hb); have n4_ := Aside0.mk (below_step (by repeat (first | (with_reducible first | exact HB.out | apply lA_17 | apply lN_17 | apply lD_17 | refine lS_17 ?_ GE282.out | refine lS_17 ?_ GE283.out | refine lS_17 ?_ GE284.out | refine lS_17 ?_ GE293.out) | exact HB.out)) hb); clear BK282; clear BK283; clear BK284; clear BK293; clear HB; have BK282 := n0_; have BK283 := n1_; have BK284 := n2_; have BK293 := n3_; have HB := n4_; clear n0_ n1_ n2_ n3_ n4_; (try clear hb); (try clear hb2); (try clear hk); (try clear hi)))
            go_meet
            case rel => exact ⟨_, (false), (by first | rfl | (simp; done) | (simp [*]; done)), H', ⟨by first | omega | exact Nat.le_refl _⟩, ⟨by (with_reducible repeat (first | apply bN_17 | apply bD_17 | apply bA_17)); exact BK282.out⟩, ⟨by (with_reducible repeat (first | apply bN_17 | apply bD_17 | apply bA_17)); exact BK283.out⟩, ⟨by (with_reducible repeat (first | apply bN_17 | apply bD_17 | apply bA_17)); exact BK284.out⟩, ⟨by (with_reducible repeat (first | apply bN_17 | apply bD_17 | apply bA_17)); exact BK293.out⟩, ⟨by repeat (first | (with_reducible first | exact HB.out | apply lA_17 | apply lN_17 | apply lD_17 | refine lS_17 ?_ GE282.out | refine lS_17 ?_ GE283.out | refine lS_17 ?_ GE284.out | refine lS_17 ?_ GE293.out) | exact HB.out)⟩⟩
        · replace c37 := Bool.eq_false_iff.mpr c37
          subst c37
          have H1 : (lockgatelaw03_TnumLattice.j0 k a3 true t285 t286 t287 t288) = some r := by rw [if_neg (show ¬ (false = true) by decide)] at H; exact H
          clear H
          have H := H1
          clear H1
          have H' := Aside0.mk H
          clear H
          have hnb97 := NB293_282.out
          have hnc97 := NB282_293.out
          have hnb98 := NB293_283.out
          have hnc98 := NB283_293.out
          have hnb99 := NB293_284.out
          have hnc99 := NB284_293.out
          have hcz100_0 : w28.cell? ⟨gb293, 0, none⟩ = some (.int .u64 0) := (blk_cell BK293.out 0).trans rfl
          have hcz100_1 : w28.cell? ⟨gb293, 1, none⟩ = some (.int .u64 0) := (blk_cell BK293.out 1).trans rfl
          have hfz100_0 := blk_frozen BK293.out 0
          have hfz100_1 := blk_frozen BK293.out 1
          have hnb101 := NB282_283.out
          have hnc101 := NB283_282.out
          have hnb102 := NB282_284.out
          have hnc102 := NB284_282.out
          have hcz103_0 : w28.cell? ⟨gb282, 0, none⟩ = some (.int .u64 t285) := (blk_cell BK282.out 0).trans rfl
          have hcz103_1 : w28.cell? ⟨gb282, 1, none⟩ = some (.int .u64 t286) := (blk_cell BK282.out 1).trans rfl
          have hfz103_0 := blk_frozen BK282.out 0
          have hfz103_1 := blk_frozen BK282.out 1
          go_wp2_with (first | (go_at_call 13; (with_reducible refine (tnum_Within.calls t285 t286 t291 t292 true _ A34.out).mono ?_); rintro e w104 ⟨rfl, hb⟩; have n0_ := Aside0.mk (blk_below (g := gb282) (o := .cells #[.int .u64 t285, .int .u64 t286] 24 (0, 0)) (by (with_reducible repeat (first | apply bN_17 | apply bD_17 | apply bA_17)); refine blk_far ?_ NB282_293.out _; (with_reducible repeat (first | apply bN_17 | apply bD_17 | apply bA_17)); refine blk_far ?_ NB282_293.out _; (with_reducible repeat (first | apply bN_17 | apply bD_17 | apply bA_17)); exact BK282.out) hb); have n1_ := Aside0.mk (blk_below (g := gb283) (o := .cells #[.int .u64 t287, .int .u64 t288] 24 (0, 0)) (by (with_reducible repeat (first | apply bN_17 | apply bD_17 | apply bA_17)); refine blk_far ?_ NB283_293.out _; (with_reducible repeat (first | apply bN_17 | apply bD_17 | apply bA_17)); refine blk_far ?_ NB283_293.out _; (with_reducible repeat (first | apply bN_17 | apply bD_17 | apply bA_17)); exact BK283.out) hb); have n2_ := Aside0.mk (blk_below (g := gb284) (o := .cells #[.int .u64 t289, .int .u64 t290] 24 (0, 0)) (by (with_reducible repeat (first | apply bN_17 | apply bD_17 | apply bA_17)); refine blk_far ?_ NB284_293.out _; (with_reducible repeat (first | apply bN_17 | apply bD_17 | apply bA_17)); refine blk_far ?_ NB284_293.out _; (with_reducible repeat (first | apply bN_17 | apply bD_17 | apply bA_17)); exact BK284.out) hb); have n3_ := Aside0.mk (blk_below (g := gb293) (o := .cells #[.int .u64 t291, .int .u64 t292] 24 (0, 0)) (by (with_reducible repeat (first | apply bN_17 | apply bD_17 | apply bA_17)); refine blk_put (cs := #[.int .u64 t291, .int .u64 0]) ?_ 1 _ rfl; (with_reducible repeat (first | apply bN_17 | apply bD_17 | apply bA_17)); refine blk_put (cs := #[.int .u64 0, .int .u64 0]) ?_ 0 _ rfl; (with_reducible repeat (first | apply bN_17 | apply bD_17 | apply bA_17)); exact BK293.out) hb); have n4_ := Aside0.mk (below_step (by repeat (first | (with_reducible first | exact HB.out | apply lA_17 | apply lN_17 | apply lD_17 | refine lS_17 ?_ GE282.out | refine lS_17 ?_ GE283.out | refine lS_17 ?_ GE284.out | refine lS_17 ?_ GE293.out) | exact HB.out)) hb); clear BK282; clear BK283; clear BK284; clear BK293; clear HB; have BK282 := n0_; have BK283 := n1_; have BK284 := n2_; have BK293 := n3_; have HB := n4_; clear n0_ n1_ n2_ n3_ n4_; (try clear hb); (try clear hb2); (try clear hk); (try clear hi); have hnb105 := NB283_284.out; have hnc105 := NB284_283.out; have hcz106_0 : w104.cell? ⟨gb283, 0, none⟩ = some (.int .u64 t287) := (blk_cell BK283.out 0).trans rfl; have hcz106_1 : w104.cell? ⟨gb283, 1, none⟩ = some (.int .u64 t288) := (blk_cell BK283.out 1).trans rfl; have hfz106_0 := blk_frozen BK283.out 0; have hfz106_1 := blk_frozen BK283.out 1; have hcz107_0 : w104.cell? ⟨gb293, 0, none⟩ = some (.int .u64 t291) := (blk_cell BK293.out 0).trans rfl; have hcz107_1 : w104.cell? ⟨gb293, 1, none⟩ = some (.int .u64 t292) := (blk_cell BK293.out 1).trans rfl; have hfz107_0 := blk_frozen BK293.out 0; have hfz107_1 := blk_frozen BK293.out 1) | (go_at_call 13; (with_reducible refine (tnum_Within.calls t287 t288 t291 t292 false _ A36.out).mono ?_); rintro e w108 ⟨rfl, hb⟩; have n0_ := Aside0.mk (blk_below (g := gb282) (o := .cells #[.int .u64 t285, .int .u64 t286] 24 (0, 0)) (by (with_reducible repeat (first | apply bN_17 | apply bD_17 | apply bA_17)); exact BK282.out) hb); have n1_ := Aside0.mk (blk_below (g := gb283) (o := .cells #[.int .u64 t287, .int .u64 t288] 24 (0, 0)) (by (with_reducible repeat (first | apply bN_17 | apply bD_17 | apply bA_17)); exact BK283.out) hb); have n2_ := Aside0.mk (blk_below (g := gb284) (o := .cells #[.int .u64 t289, .int .u64 t290] 24 (0, 0)) (by (with_reducible repeat (first | apply bN_17 | apply bD_17 | apply bA_17)); exact BK284.out) hb); have n3_ := Aside0.mk (blk_below (g := gb293) (o := .cells #[.int .u64 t291, .int .u64 t292] 24 (0, 0)) (by (with_reducible repeat (first | apply bN_17 | apply bD_17 | apply bA_17)); exact BK293.out) hb); have n4_ := Aside0.mk (below_step (by repeat (first | (with_reducible first | exact HB.out | apply lA_17 | apply lN_17 | apply lD_17 | refine lS_17 ?_ GE282.out | refine lS_17 ?_ GE283.out | refine lS_17 ?_ GE284.out | refine lS_17 ?_ GE293.out) | exact HB.out)) hb); clear BK282; clear BK283; clear BK284; clear BK293; clear HB; have BK282 := n0_; have BK283 := n1_; have BK284 := n2_; have BK293 := n3_; have HB := n4_; clear n0_ n1_ n2_ n3_ n4_; (try clear hb); (try clear hb2); (try clear hk); (try clear hi)))
          go_meet
          case rel => exact ⟨_, (true), (by first | rfl | (simp; done) | (simp [*]; done)), H', ⟨by first | omega | exact Nat.le_refl _⟩, ⟨by (with_reducible repeat (first | apply bN_17 | apply bD_17 | apply bA_17)); exact BK282.out⟩, ⟨by (with_reducible repeat (first | apply bN_17 | apply bD_17 | apply bA_17)); exact BK283.out⟩, ⟨by (with_reducible repeat (first | apply bN_17 | apply bD_17 | apply bA_17)); exact BK284.out⟩, ⟨by (with_reducible repeat (first | apply bN_17 | apply bD_17 | apply bA_17)); exact BK293.out⟩, ⟨by repeat (first | (with_reducible first | exact HB.out | apply lA_17 | apply lN_17 | apply lD_17 | refine lS_17 ?_ GE282.out | refine lS_17 ?_ GE283.out | refine lS_17 ?_ GE284.out | refine lS_17 ?_ GE293.out) | exact HB.out)⟩⟩
      · replace c35 := Bool.eq_false_iff.mpr c35
        subst c35
        have H1 : (lockgatelaw03_TnumLattice.j0 k a3 true t285 t286 t287 t288) = some r := by rw [if_neg (show ¬ (false = true) by decide)] at H; exact H
        clear H
        have H := H1
        clear H1
        have H' := Aside0.mk H
        clear H
        have hnb109 := NB293_282.out
        have hnc109 := NB282_293.out
        have hnb110 := NB293_283.out
        have hnc110 := NB283_293.out
        have hnb111 := NB293_284.out
        have hnc111 := NB284_293.out
        have hcz112_0 : w28.cell? ⟨gb293, 0, none⟩ = some (.int .u64 0) := (blk_cell BK293.out 0).trans rfl
        have hcz112_1 : w28.cell? ⟨gb293, 1, none⟩ = some (.int .u64 0) := (blk_cell BK293.out 1).trans rfl
        have hfz112_0 := blk_frozen BK293.out 0
        have hfz112_1 := blk_frozen BK293.out 1
        have hnb113 := NB282_283.out
        have hnc113 := NB283_282.out
        have hnb114 := NB282_284.out
        have hnc114 := NB284_282.out
        have hcz115_0 : w28.cell? ⟨gb282, 0, none⟩ = some (.int .u64 t285) := (blk_cell BK282.out 0).trans rfl
        have hcz115_1 : w28.cell? ⟨gb282, 1, none⟩ = some (.int .u64 t286) := (blk_cell BK282.out 1).trans rfl
        have hfz115_0 := blk_frozen BK282.out 0
        have hfz115_1 := blk_frozen BK282.out 1
        go_wp2_with (first | (go_at_call 13; (with_reducible refine (tnum_Within.calls t285 t286 t291 t292 false _ A34.out).mono ?_); rintro e w116 ⟨rfl, hb⟩; have n0_ := Aside0.mk (blk_below (g := gb282) (o := .cells #[.int .u64 t285, .int .u64 t286] 24 (0, 0)) (by (with_reducible repeat (first | apply bN_17 | apply bD_17 | apply bA_17)); refine blk_far ?_ NB282_293.out _; (with_reducible repeat (first | apply bN_17 | apply bD_17 | apply bA_17)); refine blk_far ?_ NB282_293.out _; (with_reducible repeat (first | apply bN_17 | apply bD_17 | apply bA_17)); exact BK282.out) hb); have n1_ := Aside0.mk (blk_below (g := gb283) (o := .cells #[.int .u64 t287, .int .u64 t288] 24 (0, 0)) (by (with_reducible repeat (first | apply bN_17 | apply bD_17 | apply bA_17)); refine blk_far ?_ NB283_293.out _; (with_reducible repeat (first | apply bN_17 | apply bD_17 | apply bA_17)); refine blk_far ?_ NB283_293.out _; (with_reducible repeat (first | apply bN_17 | apply bD_17 | apply bA_17)); exact BK283.out) hb); have n2_ := Aside0.mk (blk_below (g := gb284) (o := .cells #[.int .u64 t289, .int .u64 t290] 24 (0, 0)) (by (with_reducible repeat (first | apply bN_17 | apply bD_17 | apply bA_17)); refine blk_far ?_ NB284_293.out _; (with_reducible repeat (first | apply bN_17 | apply bD_17 | apply bA_17)); refine blk_far ?_ NB284_293.out _; (with_reducible repeat (first | apply bN_17 | apply bD_17 | apply bA_17)); exact BK284.out) hb); have n3_ := Aside0.mk (blk_below (g := gb293) (o := .cells #[.int .u64 t291, .int .u64 t292] 24 (0, 0)) (by (with_reducible repeat (first | apply bN_17 | apply bD_17 | apply bA_17)); refine blk_put (cs := #[.int .u64 t291, .int .u64 0]) ?_ 1 _ rfl; (with_reducible repeat (first | apply bN_17 | apply bD_17 | apply bA_17)); refine blk_put (cs := #[.int .u64 0, .int .u64 0]) ?_ 0 _ rfl; (with_reducible repeat (first | apply bN_17 | apply bD_17 | apply bA_17)); exact BK293.out) hb); have n4_ := Aside0.mk (below_step (by repeat (first | (with_reducible first | exact HB.out | apply lA_17 | apply lN_17 | apply lD_17 | refine lS_17 ?_ GE282.out | refine lS_17 ?_ GE283.out | refine lS_17 ?_ GE284.out | refine lS_17 ?_ GE293.out) | exact HB.out)) hb); clear BK282; clear BK283; clear BK284; clear BK293; clear HB; have BK282 := n0_; have BK283 := n1_; have BK284 := n2_; have BK293 := n3_; have HB := n4_; clear n0_ n1_ n2_ n3_ n4_; (try clear hb); (try clear hb2); (try clear hk); (try clear hi)))
        go_meet
        case rel => exact ⟨_, (true), (by first | rfl | (simp; done) | (simp [*]; done)), H', ⟨by first | omega | exact Nat.le_refl _⟩, ⟨by (with_reducible repeat (first | apply bN_17 | apply bD_17 | apply bA_17)); exact BK282.out⟩, ⟨by (with_reducible repeat (first | apply bN_17 | apply bD_17 | apply bA_17)); exact BK283.out⟩, ⟨by (with_reducible repeat (first | apply bN_17 | apply bD_17 | apply bA_17)); exact BK284.out⟩, ⟨by (with_reducible repeat (first | apply bN_17 | apply bD_17 | apply bA_17)); exact BK293.out⟩, ⟨by repeat (first | (with_reducible first | exact HB.out | apply lA_17 | apply lN_17 | apply lD_17 | refine lS_17 ?_ GE282.out | refine lS_17 ?_ GE283.out | refine lS_17 ?_ GE284.out | refine lS_17 ?_ GE293.out) | exact HB.out)⟩⟩
    · rw [if_neg c33] at H
      have c33b0 : ((Go.bits .and .u64 t291 t292) == 0) = false := beq_eq_false_iff_ne.mpr c33
      have c33b1 : ((Go.bits .and .u64 t291 t292) != 0) = true := bne_iff_ne.mpr c33
      (first | rw [c33b0] | (simp only [i64_w, i32_w]; rw [c33b0]) | skip)
      have H' := Aside0.mk H
      clear H
      have hnb117 := NB293_282.out
      have hnc117 := NB282_293.out
      have hnb118 := NB293_283.out
      have hnc118 := NB283_293.out
      have hnb119 := NB293_284.out
      have hnc119 := NB284_293.out
      have hcz120_0 : w28.cell? ⟨gb293, 0, none⟩ = some (.int .u64 0) := (blk_cell BK293.out 0).trans rfl
      have hcz120_1 : w28.cell? ⟨gb293, 1, none⟩ = some (.int .u64 0) := (blk_cell BK293.out 1).trans rfl
      have hfz120_0 := blk_frozen BK293.out 0
      have hfz120_1 := blk_frozen BK293.out 1
      go_wp2
      go_meet
      case rel => exact ⟨_, (true), (by first | rfl | (simp; done) | (simp [*]; done)), H', ⟨by first | omega | exact Nat.le_refl _⟩, ⟨by (with_reducible repeat (first | apply bN_17 | apply bD_17 | apply bA_17)); refine blk_far ?_ NB282_293.out _; (with_reducible repeat (first | apply bN_17 | apply bD_17 | apply bA_17)); refine blk_far ?_ NB282_293.out _; (with_reducible repeat (first | apply bN_17 | apply bD_17 | apply bA_17)); exact BK282.out⟩, ⟨by (with_reducible repeat (first | apply bN_17 | apply bD_17 | apply bA_17)); refine blk_far ?_ NB283_293.out _; (with_reducible repeat (first | apply bN_17 | apply bD_17 | apply bA_17)); refine blk_far ?_ NB283_293.out _; (with_reducible repeat (first | apply bN_17 | apply bD_17 | apply bA_17)); exact BK283.out⟩, ⟨by (with_reducible repeat (first | apply bN_17 | apply bD_17 | apply bA_17)); refine blk_far ?_ NB284_293.out _; (with_reducible repeat (first | apply bN_17 | apply bD_17 | apply bA_17)); refine blk_far ?_ NB284_293.out _; (with_reducible repeat (first | apply bN_17 | apply bD_17 | apply bA_17)); exact BK284.out⟩, ⟨by (with_reducible repeat (first | apply bN_17 | apply bD_17 | apply bA_17)); refine blk_put (cs := #[.int .u64 t291, .int .u64 0]) ?_ 1 _ rfl; (with_reducible repeat (first | apply bN_17 | apply bD_17 | apply bA_17)); refine blk_put (cs := #[.int .u64 0, .int .u64 0]) ?_ 0 _ rfl; (with_reducible repeat (first | apply bN_17 | apply bD_17 | apply bA_17)); exact BK293.out⟩, ⟨by repeat (first | (with_reducible first | exact HB.out | apply lA_17 | apply lN_17 | apply lD_17 | refine lS_17 ?_ GE282.out | refine lS_17 ?_ GE283.out | refine lS_17 ?_ GE284.out | refine lS_17 ?_ GE293.out) | exact HB.out)⟩⟩
  case rest =>
    clear HC9
    try clear c1
    try clear c2
    try clear p2
    try clear c3
    try clear c4
    try clear c5
    try clear c6
    try clear c7
    try clear c8
    try clear c9
    try clear c10
    try clear c11
    try clear c12
    try clear c13
    try clear c14
    try clear c18
    try clear c29
    try clear c30
    try clear c31
    try clear c33
    try clear c33b0
    try clear c33b1
    try clear c35
    try clear c37
    try clear c39
    try clear c41
    try clear c43
    try clear c44
    try clear c45
    try clear c47
    try clear c48
    try clear c51
    try clear c64
    try clear c65
    try clear c66
    try clear c68
    try clear c69
    try clear c72
    try clear c82
    try clear c83
    try clear c84
    try clear c86
    try clear c87
    try clear c90
    try clear c97
    try clear c98
    try clear c99
    try clear c101
    try clear c102
    try clear c105
    try clear c109
    try clear c110
    try clear c111
    try clear c113
    try clear c114
    try clear c117
    try clear c118
    try clear c119
    try clear hcz100_0
    try clear hcz100_1
    try clear hcz103_0
    try clear hcz103_1
    try clear hcz106_0
    try clear hcz106_1
    try clear hcz107_0
    try clear hcz107_1
    try clear hcz112_0
    try clear hcz112_1
    try clear hcz115_0
    try clear hcz115_1
    try clear hcz120_0
    try clear hcz120_1
    try clear hcz15_0
    try clear hcz15_1
    try clear hcz17_0
    try clear hcz17_1
    try clear hcz19_0
    try clear hcz19_1
    try clear hcz21_0
    try clear hcz21_1
    try clear hcz22_0
    try clear hcz22_1
    try clear hcz24_0
    try clear hcz24_1
    try clear hcz25_0
    try clear hcz25_1
    try clear hcz26_0
    try clear hcz26_1
    try clear hcz32_0
    try clear hcz32_1
    try clear hcz46_0
    try clear hcz46_1
    try clear hcz49_0
    try clear hcz49_1
    try clear hcz52_0
    try clear hcz52_1
    try clear hcz53_0
    try clear hcz53_1
    try clear hcz55_0
    try clear hcz55_1
    try clear hcz56_0
    try clear hcz56_1
    try clear hcz58_0
    try clear hcz58_1
    try clear hcz59_0
    try clear hcz59_1
    try clear hcz61_0
    try clear hcz61_1
    try clear hcz62_0
    try clear hcz62_1
    try clear hcz67_0
    try clear hcz67_1
    try clear hcz70_0
    try clear hcz70_1
    try clear hcz73_0
    try clear hcz73_1
    try clear hcz74_0
    try clear hcz74_1
    try clear hcz76_0
    try clear hcz76_1
    try clear hcz77_0
    try clear hcz77_1
    try clear hcz79_0
    try clear hcz79_1
    try clear hcz80_0
    try clear hcz80_1
    try clear hcz85_0
    try clear hcz85_1
    try clear hcz88_0
    try clear hcz88_1
    try clear hcz91_0
    try clear hcz91_1
    try clear hcz92_0
    try clear hcz92_1
    try clear hcz94_0
    try clear hcz94_1
    try clear hcz95_0
    try clear hcz95_1
    try clear hfz100_0
    try clear hfz100_1
    try clear hfz103_0
    try clear hfz103_1
    try clear hfz106_0
    try clear hfz106_1
    try clear hfz107_0
    try clear hfz107_1
    try clear hfz112_0
    try clear hfz112_1
    try clear hfz115_0
    try clear hfz115_1
    try clear hfz120_0
    try clear hfz120_1
    try clear hfz15_0
    try clear hfz15_1
    try clear hfz17_0
    try clear hfz17_1
    try clear hfz19_0
    try clear hfz19_1
    try clear hfz21_0
    try clear hfz21_1
    try clear hfz22_0
    try clear hfz22_1
    try clear hfz24_0
    try clear hfz24_1
    try clear hfz25_0
    try clear hfz25_1
    try clear hfz26_0
    try clear hfz26_1
    try clear hfz32_0
    try clear hfz32_1
    try clear hfz46_0
    try clear hfz46_1
    try clear hfz49_0
    try clear hfz49_1
    try clear hfz52_0
    try clear hfz52_1
    try clear hfz53_0
    try clear hfz53_1
    try clear hfz55_0
    try clear hfz55_1
    try clear hfz56_0
    try clear hfz56_1
    try clear hfz58_0
    try clear hfz58_1
    try clear hfz59_0
    try clear hfz59_1
    try clear hfz61_0
    try clear hfz61_1
    try clear hfz62_0
    try clear hfz62_1
    try clear hfz67_0
    try clear hfz67_1
    try clear hfz70_0
    try clear hfz70_1
    try clear hfz73_0
    try clear hfz73_1
    try clear hfz74_0
    try clear hfz74_1
    try clear hfz76_0
    try clear hfz76_1
    try clear hfz77_0
    try clear hfz77_1
    try clear hfz79_0
    try clear hfz79_1
    try clear hfz80_0
    try clear hfz80_1
    try clear hfz85_0
    try clear hfz85_1
    try clear hfz88_0
    try clear hfz88_1
    try clear hfz91_0
    try clear hfz91_1
    try clear hfz92_0
    try clear hfz92_1
    try clear hfz94_0
    try clear hfz94_1
    try clear hfz95_0
    try clear hfz95_1
    obtain ⟨kq, x55_8, rfl, HA, HJ8, BK282, BK283, BK284, BK293, HB⟩ := hcut
    cases kq with
    | zero => exact absurd HA.out (by simp [lockgatelaw03_TnumLattice.j0])
    | succ kj8 =>
      have H := HA.out
      clear HA
      simp only [lockgatelaw03_TnumLattice.j0] at H
      by_cases c121 : x55_8 = true
      · subst c121
        have H1 : (some false) = some r := by rw [if_pos rfl] at H; exact H
        clear H
        have H := H1
        clear H1
        exact absurd ((Option.some.inj H).trans HRT.out) (by decide)
      · replace c121 := Bool.eq_false_iff.mpr c121
        subst c121
        have H1 : ((tnum_Meet.f t285 t286 t287 t288).bind fun bt299 => ((lockgatelaw03_one.f t285 t286 a3).bind fun t303 => (if bt299.2.2 = true then (if (Go.bits .and .u64 bt299.1 bt299.2.1) = 0 then ((tnum_Within.f bt299.1 bt299.2.1 t285 t286).bind fun t310 => (if t310 = true then ((tnum_Within.f bt299.1 bt299.2.1 t287 t288).bind fun t311 => (if t311 = true then ((tnum_In.f bt299.1 bt299.2.1 a3).bind fun t312 => ((tnum_In.f t285 t286 a3).bind fun t313 => (if t313 = true then ((tnum_In.f t287 t288 a3).bind fun t314 => (if (t312 == t314) = true then ((tnum_In.f bt299.1 bt299.2.1 t303).bind fun t315 => ((tnum_In.f t287 t288 t303).bind fun t316 => (if (t315 == t316) = true then ((lockgatelaw03_known.f kj8).bind fun t317 => (some t317)) else (some false)))) else (some false))) else (if (t312 == false) = true then ((tnum_In.f bt299.1 bt299.2.1 t303).bind fun t318 => ((tnum_In.f t287 t288 t303).bind fun t319 => (if (t318 == t319) = true then ((lockgatelaw03_known.f kj8).bind fun t320 => (some t320)) else (some false)))) else (some false))))) else (some false))) else (some false))) else (some false)) else (if (bt299.1 == 0 && (bt299.2.1 == 0)) = true then ((tnum_In.f t285 t286 a3).bind fun t304 => (if t304 = true then ((tnum_In.f t287 t288 a3).bind fun t305 => (if t305 = true then (some false) else ((tnum_In.f t287 t288 t303).bind fun t306 => (if t306 = true then (some false) else ((lockgatelaw03_known.f kj8).bind fun t307 => (some t307)))))) else ((tnum_In.f t287 t288 t303).bind fun t308 => (if t308 = true then (some false) else ((lockgatelaw03_known.f kj8).bind fun t309 => (some t309)))))) else (some false))))) = some r := by rw [if_neg (show ¬ (false = true) by decide)] at H; exact H
        clear H
        have H := H1
        clear H1
        replace H := Option.bind_eq_some_iff.mp H
        obtain ⟨⟨t299, t300, t301⟩, A1220, H⟩ := H
        replace H : ((lockgatelaw03_one.f t285 t286 a3).bind fun t303 => (if t301 = true then (if (Go.bits .and .u64 t299 t300) = 0 then ((tnum_Within.f t299 t300 t285 t286).bind fun t310 => (if t310 = true then ((tnum_Within.f t299 t300 t287 t288).bind fun t311 => (if t311 = true then ((tnum_In.f t299 t300 a3).bind fun t312 => ((tnum_In.f t285 t286 a3).bind fun t313 => (if t313 = true then ((tnum_In.f t287 t288 a3).bind fun t314 => (if (t312 == t314) = true then ((tnum_In.f t299 t300 t303).bind fun t315 => ((tnum_In.f t287 t288 t303).bind fun t316 => (if (t315 == t316) = true then ((lockgatelaw03_known.f kj8).bind fun t317 => (some t317)) else (some false)))) else (some false))) else (if (t312 == false) = true then ((tnum_In.f t299 t300 t303).bind fun t318 => ((tnum_In.f t287 t288 t303).bind fun t319 => (if (t318 == t319) = true then ((lockgatelaw03_known.f kj8).bind fun t320 => (some t320)) else (some false)))) else (some false))))) else (some false))) else (some false))) else (some false)) else (if (t299 == 0 && (t300 == 0)) = true then ((tnum_In.f t285 t286 a3).bind fun t304 => (if t304 = true then ((tnum_In.f t287 t288 a3).bind fun t305 => (if t305 = true then (some false) else ((tnum_In.f t287 t288 t303).bind fun t306 => (if t306 = true then (some false) else ((lockgatelaw03_known.f kj8).bind fun t307 => (some t307)))))) else ((tnum_In.f t287 t288 t303).bind fun t308 => (if t308 = true then (some false) else ((lockgatelaw03_known.f kj8).bind fun t309 => (some t309)))))) else (some false)))) = some r := H
        have A122 := Aside0.mk A1220
        clear A1220
        replace H := Option.bind_eq_some_iff.mp H
        obtain ⟨t303, A1230, H⟩ := H
        replace H : (if t301 = true then (if (Go.bits .and .u64 t299 t300) = 0 then ((tnum_Within.f t299 t300 t285 t286).bind fun t310 => (if t310 = true then ((tnum_Within.f t299 t300 t287 t288).bind fun t311 => (if t311 = true then ((tnum_In.f t299 t300 a3).bind fun t312 => ((tnum_In.f t285 t286 a3).bind fun t313 => (if t313 = true then ((tnum_In.f t287 t288 a3).bind fun t314 => (if (t312 == t314) = true then ((tnum_In.f t299 t300 t303).bind fun t315 => ((tnum_In.f t287 t288 t303).bind fun t316 => (if (t315 == t316) = true then ((lockgatelaw03_known.f kj8).bind fun t317 => (some t317)) else (some false)))) else (some false))) else (if (t312 == false) = true then ((tnum_In.f t299 t300 t303).bind fun t318 => ((tnum_In.f t287 t288 t303).bind fun t319 => (if (t318 == t319) = true then ((lockgatelaw03_known.f kj8).bind fun t320 => (some t320)) else (some false)))) else (some false))))) else (some false))) else (some false))) else (some false)) else (if (t299 == 0 && (t300 == 0)) = true then ((tnum_In.f t285 t286 a3).bind fun t304 => (if t304 = true then ((tnum_In.f t287 t288 a3).bind fun t305 => (if t305 = true then (some false) else ((tnum_In.f t287 t288 t303).bind fun t306 => (if t306 = true then (some false) else ((lockgatelaw03_known.f kj8).bind fun t307 => (some t307)))))) else ((tnum_In.f t287 t288 t303).bind fun t308 => (if t308 = true then (some false) else ((lockgatelaw03_known.f kj8).bind fun t309 => (some t309)))))) else (some false))) = some r := H
        have A123 := Aside0.mk A1230
        clear A1230
        by_cases c124 : t301 = true
        · subst c124
          have H1 : (if (Go.bits .and .u64 t299 t300) = 0 then ((tnum_Within.f t299 t300 t285 t286).bind fun t310 => (if t310 = true then ((tnum_Within.f t299 t300 t287 t288).bind fun t311 => (if t311 = true then ((tnum_In.f t299 t300 a3).bind fun t312 => ((tnum_In.f t285 t286 a3).bind fun t313 => (if t313 = true then ((tnum_In.f t287 t288 a3).bind fun t314 => (if (t312 == t314) = true then ((tnum_In.f t299 t300 t303).bind fun t315 => ((tnum_In.f t287 t288 t303).bind fun t316 => (if (t315 == t316) = true then ((lockgatelaw03_known.f kj8).bind fun t317 => (some t317)) else (some false)))) else (some false))) else (if (t312 == false) = true then ((tnum_In.f t299 t300 t303).bind fun t318 => ((tnum_In.f t287 t288 t303).bind fun t319 => (if (t318 == t319) = true then ((lockgatelaw03_known.f kj8).bind fun t320 => (some t320)) else (some false)))) else (some false))))) else (some false))) else (some false))) else (some false)) = some r := by rw [if_pos rfl] at H; exact H
          clear H
          have H := H1
          clear H1
          by_cases c125 : (Go.bits .and .u64 t299 t300) = 0
          · rw [if_pos c125] at H
            have c125b0 : ((Go.bits .and .u64 t299 t300) == 0) = true := beq_iff_eq.mpr c125
            have c125b1 : ((Go.bits .and .u64 t299 t300) != 0) = false := bne_eq_false_iff_eq.mpr c125
            clear c125
            replace H := Option.bind_eq_some_iff.mp H
            obtain ⟨t310, A1260, H⟩ := H
            replace H : (if t310 = true then ((tnum_Within.f t299 t300 t287 t288).bind fun t311 => (if t311 = true then ((tnum_In.f t299 t300 a3).bind fun t312 => ((tnum_In.f t285 t286 a3).bind fun t313 => (if t313 = true then ((tnum_In.f t287 t288 a3).bind fun t314 => (if (t312 == t314) = true then ((tnum_In.f t299 t300 t303).bind fun t315 => ((tnum_In.f t287 t288 t303).bind fun t316 => (if (t315 == t316) = true then ((lockgatelaw03_known.f kj8).bind fun t317 => (some t317)) else (some false)))) else (some false))) else (if (t312 == false) = true then ((tnum_In.f t299 t300 t303).bind fun t318 => ((tnum_In.f t287 t288 t303).bind fun t319 => (if (t318 == t319) = true then ((lockgatelaw03_known.f kj8).bind fun t320 => (some t320)) else (some false)))) else (some false))))) else (some false))) else (some false)) = some r := H
            have A126 := Aside0.mk A1260
            clear A1260
            by_cases c127 : t310 = true
            · subst c127
              have H1 : ((tnum_Within.f t299 t300 t287 t288).bind fun t311 => (if t311 = true then ((tnum_In.f t299 t300 a3).bind fun t312 => ((tnum_In.f t285 t286 a3).bind fun t313 => (if t313 = true then ((tnum_In.f t287 t288 a3).bind fun t314 => (if (t312 == t314) = true then ((tnum_In.f t299 t300 t303).bind fun t315 => ((tnum_In.f t287 t288 t303).bind fun t316 => (if (t315 == t316) = true then ((lockgatelaw03_known.f kj8).bind fun t317 => (some t317)) else (some false)))) else (some false))) else (if (t312 == false) = true then ((tnum_In.f t299 t300 t303).bind fun t318 => ((tnum_In.f t287 t288 t303).bind fun t319 => (if (t318 == t319) = true then ((lockgatelaw03_known.f kj8).bind fun t320 => (some t320)) else (some false)))) else (some false))))) else (some false))) = some r := by rw [if_pos rfl] at H; exact H
              clear H
              have H := H1
              clear H1
              replace H := Option.bind_eq_some_iff.mp H
              obtain ⟨t311, A1280, H⟩ := H
              replace H : (if t311 = true then ((tnum_In.f t299 t300 a3).bind fun t312 => ((tnum_In.f t285 t286 a3).bind fun t313 => (if t313 = true then ((tnum_In.f t287 t288 a3).bind fun t314 => (if (t312 == t314) = true then ((tnum_In.f t299 t300 t303).bind fun t315 => ((tnum_In.f t287 t288 t303).bind fun t316 => (if (t315 == t316) = true then ((lockgatelaw03_known.f kj8).bind fun t317 => (some t317)) else (some false)))) else (some false))) else (if (t312 == false) = true then ((tnum_In.f t299 t300 t303).bind fun t318 => ((tnum_In.f t287 t288 t303).bind fun t319 => (if (t318 == t319) = true then ((lockgatelaw03_known.f kj8).bind fun t320 => (some t320)) else (some false)))) else (some false))))) else (some false)) = some r := H
              have A128 := Aside0.mk A1280
              clear A1280
              by_cases c129 : t311 = true
              · subst c129
                have H1 : ((tnum_In.f t299 t300 a3).bind fun t312 => ((tnum_In.f t285 t286 a3).bind fun t313 => (if t313 = true then ((tnum_In.f t287 t288 a3).bind fun t314 => (if (t312 == t314) = true then ((tnum_In.f t299 t300 t303).bind fun t315 => ((tnum_In.f t287 t288 t303).bind fun t316 => (if (t315 == t316) = true then ((lockgatelaw03_known.f kj8).bind fun t317 => (some t317)) else (some false)))) else (some false))) else (if (t312 == false) = true then ((tnum_In.f t299 t300 t303).bind fun t318 => ((tnum_In.f t287 t288 t303).bind fun t319 => (if (t318 == t319) = true then ((lockgatelaw03_known.f kj8).bind fun t320 => (some t320)) else (some false)))) else (some false))))) = some r := by rw [if_pos rfl] at H; exact H
                clear H
                have H := H1
                clear H1
                replace H := Option.bind_eq_some_iff.mp H
                obtain ⟨t312, A1300, H⟩ := H
                replace H : ((tnum_In.f t285 t286 a3).bind fun t313 => (if t313 = true then ((tnum_In.f t287 t288 a3).bind fun t314 => (if (t312 == t314) = true then ((tnum_In.f t299 t300 t303).bind fun t315 => ((tnum_In.f t287 t288 t303).bind fun t316 => (if (t315 == t316) = true then ((lockgatelaw03_known.f kj8).bind fun t317 => (some t317)) else (some false)))) else (some false))) else (if (t312 == false) = true then ((tnum_In.f t299 t300 t303).bind fun t318 => ((tnum_In.f t287 t288 t303).bind fun t319 => (if (t318 == t319) = true then ((lockgatelaw03_known.f kj8).bind fun t320 => (some t320)) else (some false)))) else (some false)))) = some r := H
                have A130 := Aside0.mk A1300
                clear A1300
                replace H := Option.bind_eq_some_iff.mp H
                obtain ⟨t313, A1310, H⟩ := H
                replace H : (if t313 = true then ((tnum_In.f t287 t288 a3).bind fun t314 => (if (t312 == t314) = true then ((tnum_In.f t299 t300 t303).bind fun t315 => ((tnum_In.f t287 t288 t303).bind fun t316 => (if (t315 == t316) = true then ((lockgatelaw03_known.f kj8).bind fun t317 => (some t317)) else (some false)))) else (some false))) else (if (t312 == false) = true then ((tnum_In.f t299 t300 t303).bind fun t318 => ((tnum_In.f t287 t288 t303).bind fun t319 => (if (t318 == t319) = true then ((lockgatelaw03_known.f kj8).bind fun t320 => (some t320)) else (some false)))) else (some false))) = some r := H
                have A131 := Aside0.mk A1310
                clear A1310
                by_cases c132 : t313 = true
                · subst c132
                  have H1 : ((tnum_In.f t287 t288 a3).bind fun t314 => (if (t312 == t314) = true then ((tnum_In.f t299 t300 t303).bind fun t315 => ((tnum_In.f t287 t288 t303).bind fun t316 => (if (t315 == t316) = true then ((lockgatelaw03_known.f kj8).bind fun t317 => (some t317)) else (some false)))) else (some false))) = some r := by rw [if_pos rfl] at H; exact H
                  clear H
                  have H := H1
                  clear H1
                  replace H := Option.bind_eq_some_iff.mp H
                  obtain ⟨t314, A1330, H⟩ := H
                  replace H : (if (t312 == t314) = true then ((tnum_In.f t299 t300 t303).bind fun t315 => ((tnum_In.f t287 t288 t303).bind fun t316 => (if (t315 == t316) = true then ((lockgatelaw03_known.f kj8).bind fun t317 => (some t317)) else (some false)))) else (some false)) = some r := H
                  have A133 := Aside0.mk A1330
                  clear A1330
                  by_cases c134 : (t312 == t314) = true
                  · rw [if_pos c134] at H
                    have c134b0 : (t312 == t314) = true := c134
                    (try (have c134b1 : decide (t312 = t314) = true := by simpa using c134))
                    (try (have c134b2 : (t312 == t314) = true := by simpa using c134))
                    clear c134
                    replace H := Option.bind_eq_some_iff.mp H
                    obtain ⟨t315, A1350, H⟩ := H
                    replace H : ((tnum_In.f t287 t288 t303).bind fun t316 => (if (t315 == t316) = true then ((lockgatelaw03_known.f kj8).bind fun t317 => (some t317)) else (some false))) = some r := H
                    have A135 := Aside0.mk A1350
                    clear A1350
                    replace H := Option.bind_eq_some_iff.mp H
                    obtain ⟨t316, A1360, H⟩ := H
                    replace H : (if (t315 == t316) = true then ((lockgatelaw03_known.f kj8).bind fun t317 => (some t317)) else (some false)) = some r := H
                    have A136 := Aside0.mk A1360
                    clear A1360
                    by_cases c137 : (t315 == t316) = true
                    · rw [if_pos c137] at H
                      have c137b0 : (t315 == t316) = true := c137
                      (try (have c137b1 : decide (t315 = t316) = true := by simpa using c137))
                      (try (have c137b2 : (t315 == t316) = true := by simpa using c137))
                      clear c137
                      replace H := Option.bind_eq_some_iff.mp H
                      obtain ⟨t317, A1380, H⟩ := H
                      replace H : (some t317) = some r := H
                      have A138 := Aside0.mk A1380
                      clear A1380
                      obtain rfl := Option.some.inj H
                      have hnb139 := NB282_283.out
                      have hnc139 := NB283_282.out
                      have hnb140 := NB282_284.out
                      have hnc140 := NB284_282.out
                      have hnb141 := NB282_293.out
                      have hnc141 := NB293_282.out
                      have hcz142_0 : wc.cell? ⟨gb282, 0, none⟩ = some (.int .u64 t285) := (blk_cell BK282.out 0).trans rfl
                      have hcz142_1 : wc.cell? ⟨gb282, 1, none⟩ = some (.int .u64 t286) := (blk_cell BK282.out 1).trans rfl
                      have hfz142_0 := blk_frozen BK282.out 0
                      have hfz142_1 := blk_frozen BK282.out 1
                      have hnb143 := NB283_284.out
                      have hnc143 := NB284_283.out
                      have hnb144 := NB283_293.out
                      have hnc144 := NB293_283.out
                      have hcz145_0 : wc.cell? ⟨gb283, 0, none⟩ = some (.int .u64 t287) := (blk_cell BK283.out 0).trans rfl
                      have hcz145_1 : wc.cell? ⟨gb283, 1, none⟩ = some (.int .u64 t288) := (blk_cell BK283.out 1).trans rfl
                      have hfz145_0 := blk_frozen BK283.out 0
                      have hfz145_1 := blk_frozen BK283.out 1
                      try go_wp2_with (first | ((with_reducible refine gate_callee (f := 23) rfl ?_); refine goesL_ (some 59) rfl rfl Try.func23 (by kernel_rfl) rfl #[.agg #[.int .u64 t285, .int .u64 t286], .agg #[.int .u64 t287, .int .u64 t288]] rfl (by (try simp only [List.map_toArray, List.map_cons, List.map_nil]); first | done | rfl) ?_; (with_reducible refine (tnum_Meet.calls t285 t286 t287 t288 t299 t300 true _ A122.out).mono ?_); rintro e w146 ⟨rfl, hb⟩; refine ⟨_, rfl, ?_⟩; have n0_ := Aside0.mk (blk_below (g := gb282) (o := .cells #[.int .u64 t285, .int .u64 t286] 24 (0, 0)) (by (with_reducible repeat (first | apply bN_17 | apply bD_17 | apply bA_17)); exact BK282.out) hb); have n1_ := Aside0.mk (blk_below (g := gb283) (o := .cells #[.int .u64 t287, .int .u64 t288] 24 (0, 0)) (by (with_reducible repeat (first | apply bN_17 | apply bD_17 | apply bA_17)); exact BK283.out) hb); have n2_ := Aside0.mk (blk_below (g := gb284) (o := .cells #[.int .u64 t289, .int .u64 t290] 24 (0, 0)) (by (with_reducible repeat (first | apply bN_17 | apply bD_17 | apply bA_17)); exact BK284.out) hb); have n3_ := Aside0.mk (blk_below (g := gb293) (o := .cells #[.int .u64 t291, .int .u64 t292] 24 (0, 0)) (by (with_reducible repeat (first | apply bN_17 | apply bD_17 | apply bA_17)); exact BK293.out) hb); have n4_ := Aside0.mk (below_step (by repeat (first | (with_reducible first | exact HB.out | apply lA_17 | apply lN_17 | apply lD_17 | refine lS_17 ?_ GE282.out | refine lS_17 ?_ GE283.out | refine lS_17 ?_ GE284.out | refine lS_17 ?_ GE293.out) | exact HB.out)) hb); clear BK282; clear BK283; clear BK284; clear BK293; clear HB; have BK282 := n0_; have BK283 := n1_; have BK284 := n2_; have BK293 := n3_; have HB := n4_; clear n0_ n1_ n2_ n3_ n4_; (try clear hb); (try clear hb2); (try clear hk); (try clear hi)) | ((with_reducible refine gate_dst (N := 10) rfl ?_); refine box_event ?hg (N := 10) ?hd (cs := #[.int .u64 0, .int .u64 0]) (t := 24) ?hr ?_; (case hd => rfl); (case hg => rfl); (case hr => first | (go_simp; done) | (go_simp; rfl)); intro gb302 hg w147 hbox hb; have n0_ := Aside0.mk (blk_below (g := gb282) (o := .cells #[.int .u64 t285, .int .u64 t286] 24 (0, 0)) (by (with_reducible repeat (first | apply bN_17 | apply bD_17 | apply bA_17)); exact BK282.out) hb); have n1_ := Aside0.mk (blk_below (g := gb283) (o := .cells #[.int .u64 t287, .int .u64 t288] 24 (0, 0)) (by (with_reducible repeat (first | apply bN_17 | apply bD_17 | apply bA_17)); exact BK283.out) hb); have n2_ := Aside0.mk (blk_below (g := gb284) (o := .cells #[.int .u64 t289, .int .u64 t290] 24 (0, 0)) (by (with_reducible repeat (first | apply bN_17 | apply bD_17 | apply bA_17)); exact BK284.out) hb); have n3_ := Aside0.mk (blk_below (g := gb293) (o := .cells #[.int .u64 t291, .int .u64 t292] 24 (0, 0)) (by (with_reducible repeat (first | apply bN_17 | apply bD_17 | apply bA_17)); exact BK293.out) hb); have n4_ := Aside0.mk (below_step (by repeat (first | (with_reducible first | exact HB.out | apply lA_17 | apply lN_17 | apply lD_17 | refine lS_17 ?_ GE282.out | refine lS_17 ?_ GE283.out | refine lS_17 ?_ GE284.out | refine lS_17 ?_ GE293.out) | exact HB.out)) hb); have n5_ := Aside0.mk (hbox); have n6_ := Aside0.mk ((by rw [hg]; exact (below_size (by repeat (first | (with_reducible first | exact HB.out | apply lA_17 | apply lN_17 | apply lD_17 | refine lS_17 ?_ GE282.out | refine lS_17 ?_ GE283.out | refine lS_17 ?_ GE284.out | refine lS_17 ?_ GE293.out) | exact HB.out))) : w.heap.size ≤ gb302)); have n7_ := Aside0.mk ((by rw [hg]; exact (below_size (by repeat (first | (with_reducible first | exact HB.out | apply lA_17 | apply lN_17 | apply lD_17 | refine lS_17 ?_ GE282.out | refine lS_17 ?_ GE283.out | refine lS_17 ?_ GE284.out | refine lS_17 ?_ GE293.out) | exact HB.out))) : w.heap.size ≤ gb302)); have n8_ := Aside0.mk ((by rw [hg]; exact Nat.ne_of_lt (blk_lt (g := gb282) (o := .cells #[.int .u64 t285, .int .u64 t286] 24 (0, 0)) (by (with_reducible repeat (first | apply bN_17 | apply bD_17 | apply bA_17)); exact BK282.out)) : gb282 ≠ gb302)); have n9_ := Aside0.mk ((by rw [hg]; exact Nat.ne_of_gt (blk_lt (g := gb282) (o := .cells #[.int .u64 t285, .int .u64 t286] 24 (0, 0)) (by (with_reducible repeat (first | apply bN_17 | apply bD_17 | apply bA_17)); exact BK282.out)) : gb302 ≠ gb282)); have n10_ := Aside0.mk ((by rw [hg]; exact Nat.ne_of_lt (blk_lt (g := gb283) (o := .cells #[.int .u64 t287, .int .u64 t288] 24 (0, 0)) (by (with_reducible repeat (first | apply bN_17 | apply bD_17 | apply bA_17)); exact BK283.out)) : gb283 ≠ gb302)); have n11_ := Aside0.mk ((by rw [hg]; exact Nat.ne_of_gt (blk_lt (g := gb283) (o := .cells #[.int .u64 t287, .int .u64 t288] 24 (0, 0)) (by (with_reducible repeat (first | apply bN_17 | apply bD_17 | apply bA_17)); exact BK283.out)) : gb302 ≠ gb283)); have n12_ := Aside0.mk ((by rw [hg]; exact Nat.ne_of_lt (blk_lt (g := gb284) (o := .cells #[.int .u64 t289, .int .u64 t290] 24 (0, 0)) (by (with_reducible repeat (first | apply bN_17 | apply bD_17 | apply bA_17)); exact BK284.out)) : gb284 ≠ gb302)); have n13_ := Aside0.mk ((by rw [hg]; exact Nat.ne_of_gt (blk_lt (g := gb284) (o := .cells #[.int .u64 t289, .int .u64 t290] 24 (0, 0)) (by (with_reducible repeat (first | apply bN_17 | apply bD_17 | apply bA_17)); exact BK284.out)) : gb302 ≠ gb284)); have n14_ := Aside0.mk ((by rw [hg]; exact Nat.ne_of_lt (blk_lt (g := gb293) (o := .cells #[.int .u64 t291, .int .u64 t292] 24 (0, 0)) (by (with_reducible repeat (first | apply bN_17 | apply bD_17 | apply bA_17)); exact BK293.out)) : gb293 ≠ gb302)); have n15_ := Aside0.mk ((by rw [hg]; exact Nat.ne_of_gt (blk_lt (g := gb293) (o := .cells #[.int .u64 t291, .int .u64 t292] 24 (0, 0)) (by (with_reducible repeat (first | apply bN_17 | apply bD_17 | apply bA_17)); exact BK293.out)) : gb302 ≠ gb293)); clear BK282; clear BK283; clear BK284; clear BK293; clear HB; have BK282 := n0_; have BK283 := n1_; have BK284 := n2_; have BK293 := n3_; have HB := n4_; have BK302 := n5_; have GW302 := n6_; have GE302 := n7_; have NB282_302 := n8_; have NB302_282 := n9_; have NB283_302 := n10_; have NB302_283 := n11_; have NB284_302 := n12_; have NB302_284 := n13_; have NB293_302 := n14_; have NB302_293 := n15_; clear n0_ n1_ n2_ n3_ n4_ n5_ n6_ n7_ n8_ n9_ n10_ n11_ n12_ n13_ n14_ n15_; clear hb hbox hg; have hnb148 := NB302_282.out; have hnc148 := NB282_302.out; have hnb149 := NB302_283.out; have hnc149 := NB283_302.out; have hnb150 := NB302_284.out; have hnc150 := NB284_302.out; have hnb151 := NB302_293.out; have hnc151 := NB293_302.out; have hcz152_0 : w147.cell? ⟨gb302, 0, none⟩ = some (.int .u64 0) := (blk_cell BK302.out 0).trans rfl; have hcz152_1 : w147.cell? ⟨gb302, 1, none⟩ = some (.int .u64 0) := (blk_cell BK302.out 1).trans rfl; have hfz152_0 := blk_frozen BK302.out 0; have hfz152_1 := blk_frozen BK302.out 1; have hcz153_0 : w147.cell? ⟨gb282, 0, none⟩ = some (.int .u64 t285) := (blk_cell BK282.out 0).trans rfl; have hcz153_1 : w147.cell? ⟨gb282, 1, none⟩ = some (.int .u64 t286) := (blk_cell BK282.out 1).trans rfl; have hfz153_0 := blk_frozen BK282.out 0; have hfz153_1 := blk_frozen BK282.out 1) | ((with_reducible refine gate_callee (f := 15) rfl ?_); refine goesL_ (some 64) rfl rfl Try.func15 (by kernel_rfl) rfl #[.agg #[.int .u64 t285, .int .u64 t286], .int .u64 a3] rfl (by (try simp only [List.map_toArray, List.map_cons, List.map_nil]); first | done | rfl) ?_; (with_reducible refine (lockgatelaw03_one.calls t285 t286 a3 t303 _ A123.out).mono ?_); rintro e w154 ⟨rfl, hb⟩; refine ⟨_, rfl, ?_⟩; have n0_ := Aside0.mk (blk_below (g := gb282) (o := .cells #[.int .u64 t285, .int .u64 t286] 24 (0, 0)) (by (with_reducible repeat (first | apply bN_17 | apply bD_17 | apply bA_17)); refine blk_far ?_ NB282_302.out _; (with_reducible repeat (first | apply bN_17 | apply bD_17 | apply bA_17)); refine blk_far ?_ NB282_302.out _; (with_reducible repeat (first | apply bN_17 | apply bD_17 | apply bA_17)); exact BK282.out) hb); have n1_ := Aside0.mk (blk_below (g := gb283) (o := .cells #[.int .u64 t287, .int .u64 t288] 24 (0, 0)) (by (with_reducible repeat (first | apply bN_17 | apply bD_17 | apply bA_17)); refine blk_far ?_ NB283_302.out _; (with_reducible repeat (first | apply bN_17 | apply bD_17 | apply bA_17)); refine blk_far ?_ NB283_302.out _; (with_reducible repeat (first | apply bN_17 | apply bD_17 | apply bA_17)); exact BK283.out) hb); have n2_ := Aside0.mk (blk_below (g := gb284) (o := .cells #[.int .u64 t289, .int .u64 t290] 24 (0, 0)) (by (with_reducible repeat (first | apply bN_17 | apply bD_17 | apply bA_17)); refine blk_far ?_ NB284_302.out _; (with_reducible repeat (first | apply bN_17 | apply bD_17 | apply bA_17)); refine blk_far ?_ NB284_302.out _; (with_reducible repeat (first | apply bN_17 | apply bD_17 | apply bA_17)); exact BK284.out) hb); have n3_ := Aside0.mk (blk_below (g := gb293) (o := .cells #[.int .u64 t291, .int .u64 t292] 24 (0, 0)) (by (with_reducible repeat (first | apply bN_17 | apply bD_17 | apply bA_17)); refine blk_far ?_ NB293_302.out _; (with_reducible repeat (first | apply bN_17 | apply bD_17 | apply bA_17)); refine blk_far ?_ NB293_302.out _; (with_reducible repeat (first | apply bN_17 | apply bD_17 | apply bA_17)); exact BK293.out) hb); have n4_ := Aside0.mk (blk_below (g := gb302) (o := .cells #[.int .u64 t299, .int .u64 t300] 24 (0, 0)) (by (with_reducible repeat (first | apply bN_17 | apply bD_17 | apply bA_17)); refine blk_put (cs := #[.int .u64 t299, .int .u64 0]) ?_ 1 _ rfl; (with_reducible repeat (first | apply bN_17 | apply bD_17 | apply bA_17)); refine blk_put (cs := #[.int .u64 0, .int .u64 0]) ?_ 0 _ rfl; (with_reducible repeat (first | apply bN_17 | apply bD_17 | apply bA_17)); exact BK302.out) hb); have n5_ := Aside0.mk (below_step (by repeat (first | (with_reducible first | exact HB.out | apply lA_17 | apply lN_17 | apply lD_17 | refine lS_17 ?_ GE282.out | refine lS_17 ?_ GE283.out | refine lS_17 ?_ GE284.out | refine lS_17 ?_ GE293.out | refine lS_17 ?_ GE302.out) | exact HB.out)) hb); clear BK282; clear BK283; clear BK284; clear BK293; clear BK302; clear HB; have BK282 := n0_; have BK283 := n1_; have BK284 := n2_; have BK293 := n3_; have BK302 := n4_; have HB := n5_; clear n0_ n1_ n2_ n3_ n4_ n5_; (try clear hb); (try clear hb2); (try clear hk); (try clear hi)))
                      have n0_ := Aside0.mk (blk_drew BK282.out)
                      have n1_ := Aside0.mk (blk_drew BK283.out)
                      have n2_ := Aside0.mk (blk_drew BK284.out)
                      have n3_ := Aside0.mk (blk_drew BK293.out)
                      have n4_ := Aside0.mk (blk_drew BK302.out)
                      have n5_ := Aside0.mk (below_drew1 HB.out)
                      clear BK282
                      clear BK283
                      clear BK284
                      clear BK293
                      clear BK302
                      clear HB
                      have BK282 := n0_
                      have BK283 := n1_
                      have BK284 := n2_
                      have BK293 := n3_
                      have BK302 := n4_
                      have HB := n5_
                      clear n0_ n1_ n2_ n3_ n4_ n5_
                      refine start_ (n := 43) (S := fun w' => w'.cell? ⟨gb302, 0, none⟩ = some (.int .u64 t299) ∧ w'.cell? ⟨gb302, 1, none⟩ = some (.int .u64 t300) ∧ w'.cell? ⟨gb282, 0, none⟩ = some (.int .u64 t285) ∧ w'.cell? ⟨gb282, 1, none⟩ = some (.int .u64 t286) ∧ w'.cell? ⟨gb283, 0, none⟩ = some (.int .u64 t287) ∧ w'.cell? ⟨gb283, 1, none⟩ = some (.int .u64 t288)) (ds := []) #[false, false, false, false, false, false, false, false, false, false, false, false, false, false, false, false, false, false, false, false, false, false, false, false, false, false, false, false, false, false, false, false, false, false, false, false, false, false, false, false, false, false, false] (by kernel_rfl) rfl rfl ⟨(blk_cell BK302.out 0).trans rfl, (blk_cell BK302.out 1).trans rfl, (blk_cell BK282.out 0).trans rfl, (blk_cell BK282.out 1).trans rfl, (blk_cell BK283.out 0).trans rfl, (blk_cell BK283.out 1).trans rfl⟩ (fun hHeld => ?_); refine with_tabW lockgatelaw03_TnumLattice.tab11 lockgatelaw03_TnumLattice.bits11 (fun HT_ HW_ => ?_)
                      generalize w154.drew = w155 at BK282 BK283 BK284 BK293 BK302 HB hHeld ⊢
                      refine pure_ (i := 0) (N := some 90) (v := ?_) (a' := ?_) #[true, false, false, false, false, false, false, false, false, false, false, false, false, false, false, false, false, false, false, false, false, false, false, false, false, false, false, false, false, false, false, false, false, false, false, false, false, false, false, false, false, false, false] rfl rfl (any_of HT_.out (by kernel_rfl)) (fun _ _ _ h => h) (Or.inl ⟨by rfl, ?_⟩) ?_ ?_
                      rotate_left
                      · intro w'
                        go_simp
                        with_reducible rfl
                      rotate_left
                      · simp only [Act.put, List.setIfInBounds_toArray, List.set_cons_zero, List.set_cons_succ, i64_w, i32_w]
                        rfl
                      refine pure_ (i := 2) (N := some 92) (v := ?_) (a' := ?_) #[true, false, true, false, false, false, false, false, false, false, false, false, false, false, false, false, false, false, false, false, false, false, false, false, false, false, false, false, false, false, false, false, false, false, false, false, false, false, false, false, false, false, false] rfl rfl (any_of HT_.out (by kernel_rfl)) (fun _ _ _ h => h) (Or.inl ⟨by rfl, ?_⟩) ?_ ?_
                      rotate_left
                      · intro w'
                        go_simp
                        with_reducible rfl
                      rotate_left
                      · simp only [Act.put, List.setIfInBounds_toArray, List.set_cons_zero, List.set_cons_succ, i64_w, i32_w]
                        rfl
                      refine take_ (i := 1) (N := some 91) (v := ?_) (a' := ?_) #[true, true, true, false, false, false, false, false, false, false, false, false, false, false, false, false, false, false, false, false, false, false, false, false, false, false, false, false, false, false, false, false, false, false, false, false, false, false, false, false, false, false, false] rfl rfl (take_ofW HT_.out HW_.out (by kernel_rfl)) (fun _ _ _ h => h) (Or.inl ⟨by rfl, ?_⟩) hHeld ?_ ?_
                      rotate_left
                      · rintro w' ⟨s0, s1, s2, s3, s4, s5⟩
                        go_simp
                        with_reducible rfl
                      rotate_left
                      · simp only [Act.put, List.setIfInBounds_toArray, List.set_cons_zero, List.set_cons_succ, i64_w, i32_w]
                        rfl
                      refine take_ (i := 3) (N := some 93) (v := ?_) (a' := ?_) #[true, true, true, true, false, false, false, false, false, false, false, false, false, false, false, false, false, false, false, false, false, false, false, false, false, false, false, false, false, false, false, false, false, false, false, false, false, false, false, false, false, false, false] rfl rfl (take_ofW HT_.out HW_.out (by kernel_rfl)) (fun _ _ _ h => h) (Or.inl ⟨by rfl, ?_⟩) hHeld ?_ ?_
                      rotate_left
                      · rintro w' ⟨s0, s1, s2, s3, s4, s5⟩
                        go_simp
                        with_reducible rfl
                      rotate_left
                      · simp only [Act.put, List.setIfInBounds_toArray, List.set_cons_zero, List.set_cons_succ, i64_w, i32_w]
                        rfl
                      refine pure_ (i := 4) (N := some 94) (v := ?_) (a' := ?_) #[true, true, true, true, true, false, false, false, false, false, false, false, false, false, false, false, false, false, false, false, false, false, false, false, false, false, false, false, false, false, false, false, false, false, false, false, false, false, false, false, false, false, false] rfl rfl (any_of HT_.out (by kernel_rfl)) (fun _ _ _ h => h) (Or.inl ⟨by rfl, ?_⟩) ?_ ?_
                      rotate_left
                      · intro w'
                        go_simp
                        with_reducible rfl
                      rotate_left
                      · simp only [Act.put, List.setIfInBounds_toArray, List.set_cons_zero, List.set_cons_succ, i64_w, i32_w]
                        rfl
                      refine pure_ (i := 5) (N := some 95) (v := ?_) (a' := ?_) #[true, true, true, true, true, true, false, false, false, false, false, false, false, false, false, false, false, false, false, false, false, false, false, false, false, false, false, false, false, false, false, false, false, false, false, false, false, false, false, false, false, false, false] rfl rfl (any_of HT_.out (by kernel_rfl)) (fun _ _ _ h => h) (Or.inl ⟨by rfl, ?_⟩) ?_ ?_
                      rotate_left
                      · intro w'
                        go_simp
                        with_reducible rfl
                      rotate_left
                      · simp only [Act.put, List.setIfInBounds_toArray, List.set_cons_zero, List.set_cons_succ, i64_w, i32_w]
                        rfl
                      refine pure_ (i := 6) (N := some 96) (v := ?_) (a' := ?_) #[true, true, true, true, true, true, true, false, false, false, false, false, false, false, false, false, false, false, false, false, false, false, false, false, false, false, false, false, false, false, false, false, false, false, false, false, false, false, false, false, false, false, false] rfl rfl (any_of HT_.out (by kernel_rfl)) (fun _ _ _ h => h) (Or.inl ⟨by rfl, ?_⟩) ?_ ?_
                      rotate_left
                      · intro w'
                        go_simp
                        with_reducible rfl
                      rotate_left
                      · simp only [Act.put, List.setIfInBounds_toArray, List.set_cons_zero, List.set_cons_succ, i64_w, i32_w]
                        rfl
                      refine take_ (i := 7) (N := some 97) (v := ?_) (a' := ?_) #[true, true, true, true, true, true, true, true, false, false, false, false, false, false, false, false, false, false, false, false, false, false, false, false, false, false, false, false, false, false, false, false, false, false, false, false, false, false, false, false, false, false, false] rfl rfl (take_ofW HT_.out HW_.out (by kernel_rfl)) (fun _ _ _ h => h) (Or.inl ⟨by rfl, ?_⟩) hHeld ?_ ?_
                      rotate_left
                      · rintro w' ⟨s0, s1, s2, s3, s4, s5⟩
                        go_simp
                        with_reducible rfl
                      rotate_left
                      · simp only [Act.put, List.setIfInBounds_toArray, List.set_cons_zero, List.set_cons_succ, i64_w, i32_w]
                        rfl
                      refine take_ (i := 8) (N := some 98) (v := ?_) (a' := ?_) #[true, true, true, true, true, true, true, true, true, false, false, false, false, false, false, false, false, false, false, false, false, false, false, false, false, false, false, false, false, false, false, false, false, false, false, false, false, false, false, false, false, false, false] rfl rfl (take_ofW HT_.out HW_.out (by kernel_rfl)) (fun _ _ _ h => h) (Or.inl ⟨by rfl, ?_⟩) hHeld ?_ ?_
                      rotate_left
                      · rintro w' ⟨s0, s1, s2, s3, s4, s5⟩
                        go_simp
                        with_reducible rfl
                      rotate_left
                      · simp only [Act.put, List.setIfInBounds_toArray, List.set_cons_zero, List.set_cons_succ, i64_w, i32_w]
                        rfl
                      refine one_ (i := 9) (N := some 99) #[true, true, true, true, true, true, true, true, true, true, false, false, false, false, false, false, false, false, false, false, false, false, false, false, false, false, false, false, false, false, false, false, false, false, false, false, false, false, false, false, false, false, false] rfl rfl (one_of HT_.out (by kernel_rfl)) (by decide) (fun K hK => ?_)
                      refine goes_ Try.func13 (by kernel_rfl) rfl #[.agg #[.int .u64 t299, .int .u64 t300], .agg #[.int .u64 t285, .int .u64 t286]] (by rfl) rfl rfl (by (try simp only [List.map_toArray, List.map_cons, List.map_nil]); first | done | rfl) ?_
                      with_reducible refine (tnum_Within.calls t299 t300 t285 t286 true _ A126.out).mono ?_
                      rintro e w156 ⟨rfl, hb⟩
                      refine ⟨_, rfl, ?_⟩
                      have n0_ := Aside0.mk (blk_below (g := gb282) (o := .cells #[.int .u64 t285, .int .u64 t286] 24 (0, 0)) (by (with_reducible repeat (first | apply bN_17 | apply bD_17 | apply bA_17)); exact BK282.out) hb)
                      have n1_ := Aside0.mk (blk_below (g := gb283) (o := .cells #[.int .u64 t287, .int .u64 t288] 24 (0, 0)) (by (with_reducible repeat (first | apply bN_17 | apply bD_17 | apply bA_17)); exact BK283.out) hb)
                      have n2_ := Aside0.mk (blk_below (g := gb284) (o := .cells #[.int .u64 t289, .int .u64 t290] 24 (0, 0)) (by (with_reducible repeat (first | apply bN_17 | apply bD_17 | apply bA_17)); exact BK284.out) hb)
                      have n3_ := Aside0.mk (blk_below (g := gb293) (o := .cells #[.int .u64 t291, .int .u64 t292] 24 (0, 0)) (by (with_reducible repeat (first | apply bN_17 | apply bD_17 | apply bA_17)); exact BK293.out) hb)
                      have n4_ := Aside0.mk (blk_below (g := gb302) (o := .cells #[.int .u64 t299, .int .u64 t300] 24 (0, 0)) (by (with_reducible repeat (first | apply bN_17 | apply bD_17 | apply bA_17)); exact BK302.out) hb)
                      have n5_ := Aside0.mk (below_step (by repeat (first | (with_reducible first | exact HB.out | apply lA_17 | apply lN_17 | apply lD_17 | refine lS_17 ?_ GE282.out | refine lS_17 ?_ GE283.out | refine lS_17 ?_ GE284.out | refine lS_17 ?_ GE293.out | refine lS_17 ?_ GE302.out) | exact HB.out)) hb)
                      clear BK282
                      clear BK283
                      clear BK284
                      clear BK293
                      clear BK302
                      clear HB
                      have BK282 := n0_
                      have BK283 := n1_
                      have BK284 := n2_
                      have BK293 := n3_
                      have BK302 := n4_
                      have HB := n5_
                      clear n0_ n1_ n2_ n3_ n4_ n5_
                      (try clear hb)
                      (try clear hb2)
                      (try clear hk)
                      (try clear hi)
                      refine hK.out _ _ ⟨(blk_cell BK302.out 0).trans rfl, (blk_cell BK302.out 1).trans rfl, (blk_cell BK282.out 0).trans rfl, (blk_cell BK282.out 1).trans rfl, (blk_cell BK283.out 0).trans rfl, (blk_cell BK283.out 1).trans rfl⟩ (fun hHeld => ?_)
                      clear hK K
                      refine norm_ (a' := ?_) ?_ ?_
                      rotate_left
                      · show Act.put _ (some 99) _ = _
                        simp only [Act.put, List.setIfInBounds_toArray, List.set_cons_zero, List.set_cons_succ, i64_w, i32_w]
                        rfl
                      refine pure_ (i := 10) (N := some 100) (v := ?_) (a' := ?_) #[true, true, true, true, true, true, true, true, true, true, true, false, false, false, false, false, false, false, false, false, false, false, false, false, false, false, false, false, false, false, false, false, false, false, false, false, false, false, false, false, false, false, false] rfl rfl (any_of HT_.out (by kernel_rfl)) (fun _ _ _ h => h) (Or.inl ⟨by rfl, ?_⟩) ?_ ?_
                      rotate_left
                      · intro w'
                        go_simp
                        with_reducible rfl
                      rotate_left
                      · simp only [Act.put, List.setIfInBounds_toArray, List.set_cons_zero, List.set_cons_succ, i64_w, i32_w]
                        rfl
                      refine pure_ (i := 11) (N := some 101) (v := ?_) (a' := ?_) #[true, true, true, true, true, true, true, true, true, true, true, true, false, false, false, false, false, false, false, false, false, false, false, false, false, false, false, false, false, false, false, false, false, false, false, false, false, false, false, false, false, false, false] rfl rfl (any_of HT_.out (by kernel_rfl)) (fun _ _ _ h => h) (Or.inl ⟨by rfl, ?_⟩) ?_ ?_
                      rotate_left
                      · intro w'
                        go_simp
                        with_reducible rfl
                      rotate_left
                      · simp only [Act.put, List.setIfInBounds_toArray, List.set_cons_zero, List.set_cons_succ, i64_w, i32_w]
                        rfl
                      refine take_ (i := 12) (N := some 102) (v := ?_) (a' := ?_) #[true, true, true, true, true, true, true, true, true, true, true, true, true, false, false, false, false, false, false, false, false, false, false, false, false, false, false, false, false, false, false, false, false, false, false, false, false, false, false, false, false, false, false] rfl rfl (take_ofW HT_.out HW_.out (by kernel_rfl)) (fun _ _ _ h => h) (Or.inl ⟨by rfl, ?_⟩) hHeld ?_ ?_
                      rotate_left
                      · rintro w' ⟨s0, s1, s2, s3, s4, s5⟩
                        go_simp
                        with_reducible rfl
                      rotate_left
                      · simp only [Act.put, List.setIfInBounds_toArray, List.set_cons_zero, List.set_cons_succ, i64_w, i32_w]
                        rfl
                      refine take_ (i := 13) (N := some 103) (v := ?_) (a' := ?_) #[true, true, true, true, true, true, true, true, true, true, true, true, true, true, false, false, false, false, false, false, false, false, false, false, false, false, false, false, false, false, false, false, false, false, false, false, false, false, false, false, false, false, false] rfl rfl (take_ofW HT_.out HW_.out (by kernel_rfl)) (fun _ _ _ h => h) (Or.inl ⟨by rfl, ?_⟩) hHeld ?_ ?_
                      rotate_left
                      · rintro w' ⟨s0, s1, s2, s3, s4, s5⟩
                        go_simp
                        with_reducible rfl
                      rotate_left
                      · simp only [Act.put, List.setIfInBounds_toArray, List.set_cons_zero, List.set_cons_succ, i64_w, i32_w]
                        rfl
                      refine one_ (i := 14) (N := some 104) #[true, true, true, true, true, true, true, true, true, true, true, true, true, true, true, false, false, false, false, false, false, false, false, false, false, false, false, false, false, false, false, false, false, false, false, false, false, false, false, false, false, false, false] rfl rfl (one_of HT_.out (by kernel_rfl)) (by decide) (fun K hK => ?_)
                      refine goes_ Try.func13 (by kernel_rfl) rfl #[.agg #[.int .u64 t299, .int .u64 t300], .agg #[.int .u64 t287, .int .u64 t288]] (by rfl) rfl rfl (by (try simp only [List.map_toArray, List.map_cons, List.map_nil]); first | done | rfl) ?_
                      with_reducible refine (tnum_Within.calls t299 t300 t287 t288 true _ A128.out).mono ?_
                      rintro e w157 ⟨rfl, hb⟩
                      refine ⟨_, rfl, ?_⟩
                      have n0_ := Aside0.mk (blk_below (g := gb282) (o := .cells #[.int .u64 t285, .int .u64 t286] 24 (0, 0)) (by (with_reducible repeat (first | apply bN_17 | apply bD_17 | apply bA_17)); exact BK282.out) hb)
                      have n1_ := Aside0.mk (blk_below (g := gb283) (o := .cells #[.int .u64 t287, .int .u64 t288] 24 (0, 0)) (by (with_reducible repeat (first | apply bN_17 | apply bD_17 | apply bA_17)); exact BK283.out) hb)
                      have n2_ := Aside0.mk (blk_below (g := gb284) (o := .cells #[.int .u64 t289, .int .u64 t290] 24 (0, 0)) (by (with_reducible repeat (first | apply bN_17 | apply bD_17 | apply bA_17)); exact BK284.out) hb)
                      have n3_ := Aside0.mk (blk_below (g := gb293) (o := .cells #[.int .u64 t291, .int .u64 t292] 24 (0, 0)) (by (with_reducible repeat (first | apply bN_17 | apply bD_17 | apply bA_17)); exact BK293.out) hb)
                      have n4_ := Aside0.mk (blk_below (g := gb302) (o := .cells #[.int .u64 t299, .int .u64 t300] 24 (0, 0)) (by (with_reducible repeat (first | apply bN_17 | apply bD_17 | apply bA_17)); exact BK302.out) hb)
                      have n5_ := Aside0.mk (below_step (by repeat (first | (with_reducible first | exact HB.out | apply lA_17 | apply lN_17 | apply lD_17 | refine lS_17 ?_ GE282.out | refine lS_17 ?_ GE283.out | refine lS_17 ?_ GE284.out | refine lS_17 ?_ GE293.out | refine lS_17 ?_ GE302.out) | exact HB.out)) hb)
                      clear BK282
                      clear BK283
                      clear BK284
                      clear BK293
                      clear BK302
                      clear HB
                      have BK282 := n0_
                      have BK283 := n1_
                      have BK284 := n2_
                      have BK293 := n3_
                      have BK302 := n4_
                      have HB := n5_
                      clear n0_ n1_ n2_ n3_ n4_ n5_
                      (try clear hb)
                      (try clear hb2)
                      (try clear hk)
                      (try clear hi)
                      refine hK.out _ _ ⟨(blk_cell BK302.out 0).trans rfl, (blk_cell BK302.out 1).trans rfl, (blk_cell BK282.out 0).trans rfl, (blk_cell BK282.out 1).trans rfl, (blk_cell BK283.out 0).trans rfl, (blk_cell BK283.out 1).trans rfl⟩ (fun hHeld => ?_)
                      clear hK K
                      refine norm_ (a' := ?_) ?_ ?_
                      rotate_left
                      · show Act.put _ (some 104) _ = _
                        simp only [Act.put, List.setIfInBounds_toArray, List.set_cons_zero, List.set_cons_succ, i64_w, i32_w]
                        rfl
                      refine pure_ (i := 15) (N := some 105) (v := ?_) (a' := ?_) #[true, true, true, true, true, true, true, true, true, true, true, true, true, true, true, true, false, false, false, false, false, false, false, false, false, false, false, false, false, false, false, false, false, false, false, false, false, false, false, false, false, false, false] rfl rfl (any_of HT_.out (by kernel_rfl)) (fun _ _ _ h => h) (Or.inl ⟨by rfl, ?_⟩) ?_ ?_
                      rotate_left
                      · intro w'
                        go_simp
                        with_reducible rfl
                      rotate_left
                      · simp only [Act.put, List.setIfInBounds_toArray, List.set_cons_zero, List.set_cons_succ, i64_w, i32_w]
                        rfl
                      refine pure_ (i := 16) (N := some 106) (v := ?_) (a' := ?_) #[true, true, true, true, true, true, true, true, true, true, true, true, true, true, true, true, true, false, false, false, false, false, false, false, false, false, false, false, false, false, false, false, false, false, false, false, false, false, false, false, false, false, false] rfl rfl (any_of HT_.out (by kernel_rfl)) (fun _ _ _ h => h) (Or.inl ⟨by rfl, ?_⟩) ?_ ?_
                      rotate_left
                      · intro w'
                        go_simp
                        with_reducible rfl
                      rotate_left
                      · simp only [Act.put, List.setIfInBounds_toArray, List.set_cons_zero, List.set_cons_succ, i64_w, i32_w]
                        rfl
                      refine pure_ (i := 18) (N := some 108) (v := ?_) (a' := ?_) #[true, true, true, true, true, true, true, true, true, true, true, true, true, true, true, true, true, false, true, false, false, false, false, false, false, false, false, false, false, false, false, false, false, false, false, false, false, false, false, false, false, false, false] rfl rfl (any_of HT_.out (by kernel_rfl)) (fun _ _ _ h => h) (Or.inl ⟨by rfl, ?_⟩) ?_ ?_
                      rotate_left
                      · intro w'
                        go_simp
                        with_reducible rfl
                      rotate_left
                      · simp only [Act.put, List.setIfInBounds_toArray, List.set_cons_zero, List.set_cons_succ, i64_w, i32_w]
                        rfl
                      refine pure_ (i := 21) (N := some 111) (v := ?_) (a' := ?_) #[true, true, true, true, true, true, true, true, true, true, true, true, true, true, true, true, true, false, true, false, false, true, false, false, false, false, false, false, false, false, false, false, false, false, false, false, false, false, false, false, false, false, false] rfl rfl (any_of HT_.out (by kernel_rfl)) (fun _ _ _ h => h) (Or.inl ⟨by rfl, ?_⟩) ?_ ?_
                      rotate_left
                      · intro w'
                        go_simp
                        with_reducible rfl
                      rotate_left
                      · simp only [Act.put, List.setIfInBounds_toArray, List.set_cons_zero, List.set_cons_succ, i64_w, i32_w]
                        rfl
                      refine take_ (i := 17) (N := some 107) (v := ?_) (a' := ?_) #[true, true, true, true, true, true, true, true, true, true, true, true, true, true, true, true, true, true, true, false, false, true, false, false, false, false, false, false, false, false, false, false, false, false, false, false, false, false, false, false, false, false, false] rfl rfl (take_ofW HT_.out HW_.out (by kernel_rfl)) (fun _ _ _ h => h) (Or.inl ⟨by rfl, ?_⟩) hHeld ?_ ?_
                      rotate_left
                      · rintro w' ⟨s0, s1, s2, s3, s4, s5⟩
                        go_simp
                        with_reducible rfl
                      rotate_left
                      · simp only [Act.put, List.setIfInBounds_toArray, List.set_cons_zero, List.set_cons_succ, i64_w, i32_w]
                        rfl
                      refine take_ (i := 20) (N := some 110) (v := ?_) (a' := ?_) #[true, true, true, true, true, true, true, true, true, true, true, true, true, true, true, true, true, true, true, false, true, true, false, false, false, false, false, false, false, false, false, false, false, false, false, false, false, false, false, false, false, false, false] rfl rfl (take_ofW HT_.out HW_.out (by kernel_rfl)) (fun _ _ _ h => h) (Or.inl ⟨by rfl, ?_⟩) hHeld ?_ ?_
                      rotate_left
                      · rintro w' ⟨s0, s1, s2, s3, s4, s5⟩
                        go_simp
                        with_reducible rfl
                      rotate_left
                      · simp only [Act.put, List.setIfInBounds_toArray, List.set_cons_zero, List.set_cons_succ, i64_w, i32_w]
                        rfl
                      refine one_ (i := 19) (N := some 109) #[true, true, true, true, true, true, true, true, true, true, true, true, true, true, true, true, true, true, true, true, true, true, false, false, false, false, false, false, false, false, false, false, false, false, false, false, false, false, false, false, false, false, false] rfl rfl (one_of HT_.out (by kernel_rfl)) (by decide) (fun K hK => ?_)
                      refine goes_ Try.func14 (by kernel_rfl) rfl #[.agg #[.int .u64 t299, .int .u64 t300], .int .u64 a3] (by rfl) rfl rfl (by (try simp only [List.map_toArray, List.map_cons, List.map_nil]); first | done | rfl) ?_
                      with_reducible refine (tnum_In.calls t299 t300 a3 t312 _ A130.out).mono ?_
                      rintro e w158 ⟨rfl, hb⟩
                      refine ⟨_, rfl, ?_⟩
                      have n0_ := Aside0.mk (blk_below (g := gb282) (o := .cells #[.int .u64 t285, .int .u64 t286] 24 (0, 0)) (by (with_reducible repeat (first | apply bN_17 | apply bD_17 | apply bA_17)); exact BK282.out) hb)
                      have n1_ := Aside0.mk (blk_below (g := gb283) (o := .cells #[.int .u64 t287, .int .u64 t288] 24 (0, 0)) (by (with_reducible repeat (first | apply bN_17 | apply bD_17 | apply bA_17)); exact BK283.out) hb)
                      have n2_ := Aside0.mk (blk_below (g := gb284) (o := .cells #[.int .u64 t289, .int .u64 t290] 24 (0, 0)) (by (with_reducible repeat (first | apply bN_17 | apply bD_17 | apply bA_17)); exact BK284.out) hb)
                      have n3_ := Aside0.mk (blk_below (g := gb293) (o := .cells #[.int .u64 t291, .int .u64 t292] 24 (0, 0)) (by (with_reducible repeat (first | apply bN_17 | apply bD_17 | apply bA_17)); exact BK293.out) hb)
                      have n4_ := Aside0.mk (blk_below (g := gb302) (o := .cells #[.int .u64 t299, .int .u64 t300] 24 (0, 0)) (by (with_reducible repeat (first | apply bN_17 | apply bD_17 | apply bA_17)); exact BK302.out) hb)
                      have n5_ := Aside0.mk (below_step (by repeat (first | (with_reducible first | exact HB.out | apply lA_17 | apply lN_17 | apply lD_17 | refine lS_17 ?_ GE282.out | refine lS_17 ?_ GE283.out | refine lS_17 ?_ GE284.out | refine lS_17 ?_ GE293.out | refine lS_17 ?_ GE302.out) | exact HB.out)) hb)
                      clear BK282
                      clear BK283
                      clear BK284
                      clear BK293
                      clear BK302
                      clear HB
                      have BK282 := n0_
                      have BK283 := n1_
                      have BK284 := n2_
                      have BK293 := n3_
                      have BK302 := n4_
                      have HB := n5_
                      clear n0_ n1_ n2_ n3_ n4_ n5_
                      (try clear hb)
                      (try clear hb2)
                      (try clear hk)
                      (try clear hi)
                      refine hK.out _ _ ⟨(blk_cell BK302.out 0).trans rfl, (blk_cell BK302.out 1).trans rfl, (blk_cell BK282.out 0).trans rfl, (blk_cell BK282.out 1).trans rfl, (blk_cell BK283.out 0).trans rfl, (blk_cell BK283.out 1).trans rfl⟩ (fun hHeld => ?_)
                      clear hK K
                      refine norm_ (a' := ?_) ?_ ?_
                      rotate_left
                      · show Act.put _ (some 109) _ = _
                        simp only [Act.put, List.setIfInBounds_toArray, List.set_cons_zero, List.set_cons_succ, i64_w, i32_w]
                        rfl
                      refine one_ (i := 22) (N := some 112) #[true, true, true, true, true, true, true, true, true, true, true, true, true, true, true, true, true, true, true, true, true, true, true, false, false, false, false, false, false, false, false, false, false, false, false, false, false, false, false, false, false, false, false] rfl rfl (one_of HT_.out (by kernel_rfl)) (by decide) (fun K hK => ?_)
                      refine goes_ Try.func14 (by kernel_rfl) rfl #[.agg #[.int .u64 t285, .int .u64 t286], .int .u64 a3] (by rfl) rfl rfl (by (try simp only [List.map_toArray, List.map_cons, List.map_nil]); first | done | rfl) ?_
                      with_reducible refine (tnum_In.calls t285 t286 a3 true _ A131.out).mono ?_
                      rintro e w159 ⟨rfl, hb⟩
                      refine ⟨_, rfl, ?_⟩
                      have n0_ := Aside0.mk (blk_below (g := gb282) (o := .cells #[.int .u64 t285, .int .u64 t286] 24 (0, 0)) (by (with_reducible repeat (first | apply bN_17 | apply bD_17 | apply bA_17)); exact BK282.out) hb)
                      have n1_ := Aside0.mk (blk_below (g := gb283) (o := .cells #[.int .u64 t287, .int .u64 t288] 24 (0, 0)) (by (with_reducible repeat (first | apply bN_17 | apply bD_17 | apply bA_17)); exact BK283.out) hb)
                      have n2_ := Aside0.mk (blk_below (g := gb284) (o := .cells #[.int .u64 t289, .int .u64 t290] 24 (0, 0)) (by (with_reducible repeat (first | apply bN_17 | apply bD_17 | apply bA_17)); exact BK284.out) hb)
                      have n3_ := Aside0.mk (blk_below (g := gb293) (o := .cells #[.int .u64 t291, .int .u64 t292] 24 (0, 0)) (by (with_reducible repeat (first | apply bN_17 | apply bD_17 | apply bA_17)); exact BK293.out) hb)
                      have n4_ := Aside0.mk (blk_below (g := gb302) (o := .cells #[.int .u64 t299, .int .u64 t300] 24 (0, 0)) (by (with_reducible repeat (first | apply bN_17 | apply bD_17 | apply bA_17)); exact BK302.out) hb)
                      have n5_ := Aside0.mk (below_step (by repeat (first | (with_reducible first | exact HB.out | apply lA_17 | apply lN_17 | apply lD_17 | refine lS_17 ?_ GE282.out | refine lS_17 ?_ GE283.out | refine lS_17 ?_ GE284.out | refine lS_17 ?_ GE293.out | refine lS_17 ?_ GE302.out) | exact HB.out)) hb)
                      clear BK282
                      clear BK283
                      clear BK284
                      clear BK293
                      clear BK302
                      clear HB
                      have BK282 := n0_
                      have BK283 := n1_
                      have BK284 := n2_
                      have BK293 := n3_
                      have BK302 := n4_
                      have HB := n5_
                      clear n0_ n1_ n2_ n3_ n4_ n5_
                      (try clear hb)
                      (try clear hb2)
                      (try clear hk)
                      (try clear hi)
                      refine hK.out _ _ ⟨(blk_cell BK302.out 0).trans rfl, (blk_cell BK302.out 1).trans rfl, (blk_cell BK282.out 0).trans rfl, (blk_cell BK282.out 1).trans rfl, (blk_cell BK283.out 0).trans rfl, (blk_cell BK283.out 1).trans rfl⟩ (fun hHeld => ?_)
                      clear hK K
                      refine norm_ (a' := ?_) ?_ ?_
                      rotate_left
                      · show Act.put _ (some 112) _ = _
                        simp only [Act.put, List.setIfInBounds_toArray, List.set_cons_zero, List.set_cons_succ, i64_w, i32_w]
                        rfl
                      refine pure_ (i := 23) (N := some 113) (v := ?_) (a' := ?_) #[true, true, true, true, true, true, true, true, true, true, true, true, true, true, true, true, true, true, true, true, true, true, true, true, false, false, false, false, false, false, false, false, false, false, false, false, false, false, false, false, false, false, false] rfl rfl (any_of HT_.out (by kernel_rfl)) (fun _ _ _ h => h) (Or.inl ⟨by rfl, ?_⟩) ?_ ?_
                      rotate_left
                      · intro w'
                        go_simp
                        with_reducible rfl
                      rotate_left
                      · simp only [Act.put, List.setIfInBounds_toArray, List.set_cons_zero, List.set_cons_succ, i64_w, i32_w]
                        rfl
                      refine pure_ (i := 25) (N := some 115) (v := ?_) (a' := ?_) #[true, true, true, true, true, true, true, true, true, true, true, true, true, true, true, true, true, true, true, true, true, true, true, true, false, true, false, false, false, false, false, false, false, false, false, false, false, false, false, false, false, false, false] rfl rfl (any_of HT_.out (by kernel_rfl)) (fun _ _ _ h => h) (Or.inl ⟨by rfl, ?_⟩) ?_ ?_
                      rotate_left
                      · intro w'
                        go_simp
                        with_reducible rfl
                      rotate_left
                      · simp only [Act.put, List.setIfInBounds_toArray, List.set_cons_zero, List.set_cons_succ, i64_w, i32_w]
                        rfl
                      refine take_ (i := 24) (N := some 114) (v := ?_) (a' := ?_) #[true, true, true, true, true, true, true, true, true, true, true, true, true, true, true, true, true, true, true, true, true, true, true, true, true, true, false, false, false, false, false, false, false, false, false, false, false, false, false, false, false, false, false] rfl rfl (take_ofW HT_.out HW_.out (by kernel_rfl)) (fun _ _ _ h => h) (Or.inl ⟨by rfl, ?_⟩) hHeld ?_ ?_
                      rotate_left
                      · rintro w' ⟨s0, s1, s2, s3, s4, s5⟩
                        go_simp
                        with_reducible rfl
                      rotate_left
                      · simp only [Act.put, List.setIfInBounds_toArray, List.set_cons_zero, List.set_cons_succ, i64_w, i32_w]
                        rfl
                      refine one_ (i := 26) (N := some 116) #[true, true, true, true, true, true, true, true, true, true, true, true, true, true, true, true, true, true, true, true, true, true, true, true, true, true, true, false, false, false, false, false, false, false, false, false, false, false, false, false, false, false, false] rfl rfl (one_of HT_.out (by kernel_rfl)) (by decide) (fun K hK => ?_)
                      refine goes_ Try.func14 (by kernel_rfl) rfl #[.agg #[.int .u64 t287, .int .u64 t288], .int .u64 a3] (by rfl) rfl rfl (by (try simp only [List.map_toArray, List.map_cons, List.map_nil]); first | done | rfl) ?_
                      with_reducible refine (tnum_In.calls t287 t288 a3 t314 _ A133.out).mono ?_
                      rintro e w160 ⟨rfl, hb⟩
                      refine ⟨_, rfl, ?_⟩
                      have n0_ := Aside0.mk (blk_below (g := gb282) (o := .cells #[.int .u64 t285, .int .u64 t286] 24 (0, 0)) (by (with_reducible repeat (first | apply bN_17 | apply bD_17 | apply bA_17)); exact BK282.out) hb)
                      have n1_ := Aside0.mk (blk_below (g := gb283) (o := .cells #[.int .u64 t287, .int .u64 t288] 24 (0, 0)) (by (with_reducible repeat (first | apply bN_17 | apply bD_17 | apply bA_17)); exact BK283.out) hb)
                      have n2_ := Aside0.mk (blk_below (g := gb284) (o := .cells #[.int .u64 t289, .int .u64 t290] 24 (0, 0)) (by (with_reducible repeat (first | apply bN_17 | apply bD_17 | apply bA_17)); exact BK284.out) hb)
                      have n3_ := Aside0.mk (blk_below (g := gb293) (o := .cells #[.int .u64 t291, .int .u64 t292] 24 (0, 0)) (by (with_reducible repeat (first | apply bN_17 | apply bD_17 | apply bA_17)); exact BK293.out) hb)
                      have n4_ := Aside0.mk (blk_below (g := gb302) (o := .cells #[.int .u64 t299, .int .u64 t300] 24 (0, 0)) (by (with_reducible repeat (first | apply bN_17 | apply bD_17 | apply bA_17)); exact BK302.out) hb)
                      have n5_ := Aside0.mk (below_step (by repeat (first | (with_reducible first | exact HB.out | apply lA_17 | apply lN_17 | apply lD_17 | refine lS_17 ?_ GE282.out | refine lS_17 ?_ GE283.out | refine lS_17 ?_ GE284.out | refine lS_17 ?_ GE293.out | refine lS_17 ?_ GE302.out) | exact HB.out)) hb)
                      clear BK282
                      clear BK283
                      clear BK284
                      clear BK293
                      clear BK302
                      clear HB
                      have BK282 := n0_
                      have BK283 := n1_
                      have BK284 := n2_
                      have BK293 := n3_
                      have BK302 := n4_
                      have HB := n5_
                      clear n0_ n1_ n2_ n3_ n4_ n5_
                      (try clear hb)
                      (try clear hb2)
                      (try clear hk)
                      (try clear hi)
                      refine hK.out _ _ ⟨(blk_cell BK302.out 0).trans rfl, (blk_cell BK302.out 1).trans rfl, (blk_cell BK282.out 0).trans rfl, (blk_cell BK282.out 1).trans rfl, (blk_cell BK283.out 0).trans rfl, (blk_cell BK283.out 1).trans rfl⟩ (fun hHeld => ?_)
                      clear hK K
                      refine norm_ (a' := ?_) ?_ ?_
                      rotate_left
                      · show Act.put _ (some 116) _ = _
                        simp only [Act.put, List.setIfInBounds_toArray, List.set_cons_zero, List.set_cons_succ, i64_w, i32_w]
                        rfl
                      refine pure_ (i := 27) (N := some 117) (v := ?_) (a' := ?_) #[true, true, true, true, true, true, true, true, true, true, true, true, true, true, true, true, true, true, true, true, true, true, true, true, true, true, true, true, false, false, false, false, false, false, false, false, false, false, false, false, false, false, false] rfl rfl (any_of HT_.out (by kernel_rfl)) (fun _ _ _ h => h) (Or.inl ⟨by rfl, ?_⟩) ?_ ?_
                      rotate_left
                      · intro w'
                        go_simp
                        with_reducible rfl
                      rotate_left
                      · simp only [Act.put, List.setIfInBounds_toArray, List.set_cons_zero, List.set_cons_succ, i64_w, i32_w]
                        rfl
                      refine pure_ (i := 28) (N := some 118) (v := ?_) (a' := ?_) #[true, true, true, true, true, true, true, true, true, true, true, true, true, true, true, true, true, true, true, true, true, true, true, true, true, true, true, true, true, false, false, false, false, false, false, false, false, false, false, false, false, false, false] rfl rfl (any_of HT_.out (by kernel_rfl)) (fun _ _ _ h => h) (Or.inl ⟨by rfl, ?_⟩) ?_ ?_
                      rotate_left
                      · intro w'
                        go_simp
                        with_reducible rfl
                      rotate_left
                      · simp only [Act.put, List.setIfInBounds_toArray, List.set_cons_zero, List.set_cons_succ, i64_w, i32_w]
                        rfl
                      refine pure_ (i := 29) (N := some 119) (v := ?_) (a' := ?_) #[true, true, true, true, true, true, true, true, true, true, true, true, true, true, true, true, true, true, true, true, true, true, true, true, true, true, true, true, true, true, false, false, false, false, false, false, false, false, false, false, false, false, false] rfl rfl (any_of HT_.out (by kernel_rfl)) (fun _ _ _ h => h) (Or.inl ⟨by rfl, ?_⟩) ?_ ?_
                      rotate_left
                      · intro w'
                        go_simp
                        with_reducible rfl
                      rotate_left
                      · simp only [Act.put, List.setIfInBounds_toArray, List.set_cons_zero, List.set_cons_succ, i64_w, i32_w]
                        rfl
                      refine pure_ (i := 30) (N := some 120) (v := ?_) (a' := ?_) #[true, true, true, true, true, true, true, true, true, true, true, true, true, true, true, true, true, true, true, true, true, true, true, true, true, true, true, true, true, true, true, false, false, false, false, false, false, false, false, false, false, false, false] rfl rfl (any_of HT_.out (by kernel_rfl)) (fun _ _ _ h => h) (Or.inl ⟨by rfl, ?_⟩) ?_ ?_
                      rotate_left
                      · intro w'
                        go_simp
                        with_reducible rfl
                      rotate_left
                      · simp only [Act.put, List.setIfInBounds_toArray, List.set_cons_zero, List.set_cons_succ, i64_w, i32_w]
                        rfl
                      refine pure_ (i := 32) (N := some 122) (v := ?_) (a' := ?_) #[true, true, true, true, true, true, true, true, true, true, true, true, true, true, true, true, true, true, true, true, true, true, true, true, true, true, true, true, true, true, true, false, true, false, false, false, false, false, false, false, false, false, false] rfl rfl (any_of HT_.out (by kernel_rfl)) (fun _ _ _ h => h) (Or.inl ⟨by rfl, ?_⟩) ?_ ?_
                      rotate_left
                      · intro w'
                        go_simp
                        with_reducible rfl
                      rotate_left
                      · simp only [Act.put, List.setIfInBounds_toArray, List.set_cons_zero, List.set_cons_succ, i64_w, i32_w]
                        rfl
                      refine pure_ (i := 35) (N := some 125) (v := ?_) (a' := ?_) #[true, true, true, true, true, true, true, true, true, true, true, true, true, true, true, true, true, true, true, true, true, true, true, true, true, true, true, true, true, true, true, false, true, false, false, true, false, false, false, false, false, false, false] rfl rfl (any_of HT_.out (by kernel_rfl)) (fun _ _ _ h => h) (Or.inl ⟨by rfl, ?_⟩) ?_ ?_
                      rotate_left
                      · intro w'
                        go_simp
                        with_reducible rfl
                      rotate_left
                      · simp only [Act.put, List.setIfInBounds_toArray, List.set_cons_zero, List.set_cons_succ, i64_w, i32_w]
                        rfl
                      refine take_ (i := 31) (N := some 121) (v := ?_) (a' := ?_) #[true, true, true, true, true, true, true, true, true, true, true, true, true, true, true, true, true, true, true, true, true, true, true, true, true, true, true, true, true, true, true, true, true, false, false, true, false, false, false, false, false, false, false] rfl rfl (take_ofW HT_.out HW_.out (by kernel_rfl)) (fun _ _ _ h => h) (Or.inl ⟨by rfl, ?_⟩) hHeld ?_ ?_
                      rotate_left
                      · rintro w' ⟨s0, s1, s2, s3, s4, s5⟩
                        go_simp
                        with_reducible rfl
                      rotate_left
                      · simp only [Act.put, List.setIfInBounds_toArray, List.set_cons_zero, List.set_cons_succ, i64_w, i32_w]
                        rfl
                      refine take_ (i := 34) (N := some 124) (v := ?_) (a' := ?_) #[true, true, true, true, true, true, true, true, true, true, true, true, true, true, true, true, true, true, true, true, true, true, true, true, true, true, true, true, true, true, true, true, true, false, true, true, false, false, false, false, false, false, false] rfl rfl (take_ofW HT_.out HW_.out (by kernel_rfl)) (fun _ _ _ h => h) (Or.inl ⟨by rfl, ?_⟩) hHeld ?_ ?_
                      rotate_left
                      · rintro w' ⟨s0, s1, s2, s3, s4, s5⟩
                        go_simp
                        with_reducible rfl
                      rotate_left
                      · simp only [Act.put, List.setIfInBounds_toArray, List.set_cons_zero, List.set_cons_succ, i64_w, i32_w]
                        rfl
                      refine one_ (i := 33) (N := some 123) #[true, true, true, true, true, true, true, true, true, true, true, true, true, true, true, true, true, true, true, true, true, true, true, true, true, true, true, true, true, true, true, true, true, true, true, true, false, false, false, false, false, false, false] rfl rfl (one_of HT_.out (by kernel_rfl)) (by decide) (fun K hK => ?_)
                      refine goes_ Try.func14 (by kernel_rfl) rfl #[.agg #[.int .u64 t299, .int .u64 t300], .int .u64 t303] (by rfl) rfl rfl (by (try simp only [List.map_toArray, List.map_cons, List.map_nil]); first | done | rfl) ?_
                      with_reducible refine (tnum_In.calls t299 t300 t303 t315 _ A135.out).mono ?_
                      rintro e w161 ⟨rfl, hb⟩
                      refine ⟨_, rfl, ?_⟩
                      have n0_ := Aside0.mk (blk_below (g := gb282) (o := .cells #[.int .u64 t285, .int .u64 t286] 24 (0, 0)) (by (with_reducible repeat (first | apply bN_17 | apply bD_17 | apply bA_17)); exact BK282.out) hb)
                      have n1_ := Aside0.mk (blk_below (g := gb283) (o := .cells #[.int .u64 t287, .int .u64 t288] 24 (0, 0)) (by (with_reducible repeat (first | apply bN_17 | apply bD_17 | apply bA_17)); exact BK283.out) hb)
                      have n2_ := Aside0.mk (blk_below (g := gb284) (o := .cells #[.int .u64 t289, .int .u64 t290] 24 (0, 0)) (by (with_reducible repeat (first | apply bN_17 | apply bD_17 | apply bA_17)); exact BK284.out) hb)
                      have n3_ := Aside0.mk (blk_below (g := gb293) (o := .cells #[.int .u64 t291, .int .u64 t292] 24 (0, 0)) (by (with_reducible repeat (first | apply bN_17 | apply bD_17 | apply bA_17)); exact BK293.out) hb)
                      have n4_ := Aside0.mk (blk_below (g := gb302) (o := .cells #[.int .u64 t299, .int .u64 t300] 24 (0, 0)) (by (with_reducible repeat (first | apply bN_17 | apply bD_17 | apply bA_17)); exact BK302.out) hb)
                      have n5_ := Aside0.mk (below_step (by repeat (first | (with_reducible first | exact HB.out | apply lA_17 | apply lN_17 | apply lD_17 | refine lS_17 ?_ GE282.out | refine lS_17 ?_ GE283.out | refine lS_17 ?_ GE284.out | refine lS_17 ?_ GE293.out | refine lS_17 ?_ GE302.out) | exact HB.out)) hb)
                      clear BK282
                      clear BK283
                      clear BK284
                      clear BK293
                      clear BK302
                      clear HB
                      have BK282 := n0_
                      have BK283 := n1_
                      have BK284 := n2_
                      have BK293 := n3_
                      have BK302 := n4_
                      have HB := n5_
                      clear n0_ n1_ n2_ n3_ n4_ n5_
                      (try clear hb)
                      (try clear hb2)
                      (try clear hk)
                      (try clear hi)
                      refine hK.out _ _ ⟨(blk_cell BK302.out 0).trans rfl, (blk_cell BK302.out 1).trans rfl, (blk_cell BK282.out 0).trans rfl, (blk_cell BK282.out 1).trans rfl, (blk_cell BK283.out 0).trans rfl, (blk_cell BK283.out 1).trans rfl⟩ (fun hHeld => ?_)
                      clear hK K
                      refine norm_ (a' := ?_) ?_ ?_
                      rotate_left
                      · show Act.put _ (some 123) _ = _
                        simp only [Act.put, List.setIfInBounds_toArray, List.set_cons_zero, List.set_cons_succ, i64_w, i32_w]
                        rfl
                      refine one_ (i := 36) (N := some 126) #[true, true, true, true, true, true, true, true, true, true, true, true, true, true, true, true, true, true, true, true, true, true, true, true, true, true, true, true, true, true, true, true, true, true, true, true, true, false, false, false, false, false, false] rfl rfl (one_of HT_.out (by kernel_rfl)) (by decide) (fun K hK => ?_)
                      refine goes_ Try.func14 (by kernel_rfl) rfl #[.agg #[.int .u64 t287, .int .u64 t288], .int .u64 t303] (by rfl) rfl rfl (by (try simp only [List.map_toArray, List.map_cons, List.map_nil]); first | done | rfl) ?_
                      with_reducible refine (tnum_In.calls t287 t288 t303 t316 _ A136.out).mono ?_
                      rintro e w162 ⟨rfl, hb⟩
                      refine ⟨_, rfl, ?_⟩
                      have n0_ := Aside0.mk (blk_below (g := gb282) (o := .cells #[.int .u64 t285, .int .u64 t286] 24 (0, 0)) (by (with_reducible repeat (first | apply bN_17 | apply bD_17 | apply bA_17)); exact BK282.out) hb)
                      have n1_ := Aside0.mk (blk_below (g := gb283) (o := .cells #[.int .u64 t287, .int .u64 t288] 24 (0, 0)) (by (with_reducible repeat (first | apply bN_17 | apply bD_17 | apply bA_17)); exact BK283.out) hb)
                      have n2_ := Aside0.mk (blk_below (g := gb284) (o := .cells #[.int .u64 t289, .int .u64 t290] 24 (0, 0)) (by (with_reducible repeat (first | apply bN_17 | apply bD_17 | apply bA_17)); exact BK284.out) hb)
                      have n3_ := Aside0.mk (blk_below (g := gb293) (o := .cells #[.int .u64 t291, .int .u64 t292] 24 (0, 0)) (by (with_reducible repeat (first | apply bN_17 | apply bD_17 | apply bA_17)); exact BK293.out) hb)
                      have n4_ := Aside0.mk (blk_below (g := gb302) (o := .cells #[.int .u64 t299, .int .u64 t300] 24 (0, 0)) (by (with_reducible repeat (first | apply bN_17 | apply bD_17 | apply bA_17)); exact BK302.out) hb)
                      have n5_ := Aside0.mk (below_step (by repeat (first | (with_reducible first | exact HB.out | apply lA_17 | apply lN_17 | apply lD_17 | refine lS_17 ?_ GE282.out | refine lS_17 ?_ GE283.out | refine lS_17 ?_ GE284.out | refine lS_17 ?_ GE293.out | refine lS_17 ?_ GE302.out) | exact HB.out)) hb)
                      clear BK282
                      clear BK283
                      clear BK284
                      clear BK293
                      clear BK302
                      clear HB
                      have BK282 := n0_
                      have BK283 := n1_
                      have BK284 := n2_
                      have BK293 := n3_
                      have BK302 := n4_
                      have HB := n5_
                      clear n0_ n1_ n2_ n3_ n4_ n5_
                      (try clear hb)
                      (try clear hb2)
                      (try clear hk)
                      (try clear hi)
                      refine hK.out _ _ ⟨(blk_cell BK302.out 0).trans rfl, (blk_cell BK302.out 1).trans rfl, (blk_cell BK282.out 0).trans rfl, (blk_cell BK282.out 1).trans rfl, (blk_cell BK283.out 0).trans rfl, (blk_cell BK283.out 1).trans rfl⟩ (fun hHeld => ?_)
                      clear hK K
                      refine norm_ (a' := ?_) ?_ ?_
                      rotate_left
                      · show Act.put _ (some 126) _ = _
                        simp only [Act.put, List.setIfInBounds_toArray, List.set_cons_zero, List.set_cons_succ, i64_w, i32_w]
                        rfl
                      refine pure_ (i := 37) (N := some 127) (v := ?_) (a' := ?_) #[true, true, true, true, true, true, true, true, true, true, true, true, true, true, true, true, true, true, true, true, true, true, true, true, true, true, true, true, true, true, true, true, true, true, true, true, true, true, false, false, false, false, false] rfl rfl (any_of HT_.out (by kernel_rfl)) (fun _ _ _ h => h) (Or.inl ⟨by rfl, ?_⟩) ?_ ?_
                      rotate_left
                      · intro w'
                        go_simp
                        with_reducible rfl
                      rotate_left
                      · simp only [Act.put, List.setIfInBounds_toArray, List.set_cons_zero, List.set_cons_succ, i64_w, i32_w]
                        rfl
                      refine pure_ (i := 38) (N := some 128) (v := ?_) (a' := ?_) #[true, true, true, true, true, true, true, true, true, true, true, true, true, true, true, true, true, true, true, true, true, true, true, true, true, true, true, true, true, true, true, true, true, true, true, true, true, true, true, false, false, false, false] rfl rfl (any_of HT_.out (by kernel_rfl)) (fun _ _ _ h => h) (Or.inl ⟨by rfl, ?_⟩) ?_ ?_
                      rotate_left
                      · intro w'
                        go_simp
                        with_reducible rfl
                      rotate_left
                      · simp only [Act.put, List.setIfInBounds_toArray, List.set_cons_zero, List.set_cons_succ, i64_w, i32_w]
                        rfl
                      refine pure_ (i := 39) (N := some 129) (v := ?_) (a' := ?_) #[true, true, true, true, true, true, true, true, true, true, true, true, true, true, true, true, true, true, true, true, true, true, true, true, true, true, true, true, true, true, true, true, true, true, true, true, true, true, true, true, false, false, false] rfl rfl (any_of HT_.out (by kernel_rfl)) (fun _ _ _ h => h) (Or.inl ⟨by rfl, ?_⟩) ?_ ?_
                      rotate_left
                      · intro w'
                        go_simp
                        with_reducible rfl
                      rotate_left
                      · simp only [Act.put, List.setIfInBounds_toArray, List.set_cons_zero, List.set_cons_succ, i64_w, i32_w]
                        rfl
                      refine one_ (i := 40) (N := some 130) #[true, true, true, true, true, true, true, true, true, true, true, true, true, true, true, true, true, true, true, true, true, true, true, true, true, true, true, true, true, true, true, true, true, true, true, true, true, true, true, true, true, false, false] rfl rfl (one_of HT_.out (by kernel_rfl)) (by decide) (fun K hK => ?_)
                      refine goes_ Try.func16 (by kernel_rfl) rfl #[] (by rfl) rfl rfl (by (try simp only [List.map_toArray, List.map_cons, List.map_nil]); first | done | rfl) ?_
                      with_reducible refine (lockgatelaw03_known.calls kj8  t317 _ A138.out).mono ?_
                      rintro e w163 ⟨rfl, hb⟩
                      refine ⟨_, rfl, ?_⟩
                      have n0_ := Aside0.mk (blk_below (g := gb282) (o := .cells #[.int .u64 t285, .int .u64 t286] 24 (0, 0)) (by (with_reducible repeat (first | apply bN_17 | apply bD_17 | apply bA_17)); exact BK282.out) hb)
                      have n1_ := Aside0.mk (blk_below (g := gb283) (o := .cells #[.int .u64 t287, .int .u64 t288] 24 (0, 0)) (by (with_reducible repeat (first | apply bN_17 | apply bD_17 | apply bA_17)); exact BK283.out) hb)
                      have n2_ := Aside0.mk (blk_below (g := gb284) (o := .cells #[.int .u64 t289, .int .u64 t290] 24 (0, 0)) (by (with_reducible repeat (first | apply bN_17 | apply bD_17 | apply bA_17)); exact BK284.out) hb)
                      have n3_ := Aside0.mk (blk_below (g := gb293) (o := .cells #[.int .u64 t291, .int .u64 t292] 24 (0, 0)) (by (with_reducible repeat (first | apply bN_17 | apply bD_17 | apply bA_17)); exact BK293.out) hb)
                      have n4_ := Aside0.mk (blk_below (g := gb302) (o := .cells #[.int .u64 t299, .int .u64 t300] 24 (0, 0)) (by (with_reducible repeat (first | apply bN_17 | apply bD_17 | apply bA_17)); exact BK302.out) hb)
                      have n5_ := Aside0.mk (below_step (by repeat (first | (with_reducible first | exact HB.out | apply lA_17 | apply lN_17 | apply lD_17 | refine lS_17 ?_ GE282.out | refine lS_17 ?_ GE283.out | refine lS_17 ?_ GE284.out | refine lS_17 ?_ GE293.out | refine lS_17 ?_ GE302.out) | exact HB.out)) hb)
                      clear BK282
                      clear BK283
                      clear BK284
                      clear BK293
                      clear BK302
                      clear HB
                      have BK282 := n0_
                      have BK283 := n1_
                      have BK284 := n2_
                      have BK293 := n3_
                      have BK302 := n4_
                      have HB := n5_
                      clear n0_ n1_ n2_ n3_ n4_ n5_
                      (try clear hb)
                      (try clear hb2)
                      (try clear hk)
                      (try clear hi)
                      refine hK.out _ _ ⟨(blk_cell BK302.out 0).trans rfl, (blk_cell BK302.out 1).trans rfl, (blk_cell BK282.out 0).trans rfl, (blk_cell BK282.out 1).trans rfl, (blk_cell BK283.out 0).trans rfl, (blk_cell BK283.out 1).trans rfl⟩ (fun hHeld => ?_)
                      clear hK K
                      refine norm_ (a' := ?_) ?_ ?_
                      rotate_left
                      · show Act.put _ (some 130) _ = _
                        simp only [Act.put, List.setIfInBounds_toArray, List.set_cons_zero, List.set_cons_succ, i64_w, i32_w]
                        rfl
                      refine pure_ (i := 41) (N := some 131) (v := ?_) (a' := ?_) #[true, true, true, true, true, true, true, true, true, true, true, true, true, true, true, true, true, true, true, true, true, true, true, true, true, true, true, true, true, true, true, true, true, true, true, true, true, true, true, true, true, true, false] rfl rfl (any_of HT_.out (by kernel_rfl)) (fun _ _ _ h => h) (Or.inl ⟨by rfl, ?_⟩) ?_ ?_
                      rotate_left
                      · intro w'
                        go_simp
                        with_reducible rfl
                      rotate_left
                      · simp only [Act.put, List.setIfInBounds_toArray, List.set_cons_zero, List.set_cons_succ, i64_w, i32_w]
                        rfl
                      refine pure_ (i := 42) (N := some 8) (v := ?_) (a' := ?_) #[true, true, true, true, true, true, true, true, true, true, true, true, true, true, true, true, true, true, true, true, true, true, true, true, true, true, true, true, true, true, true, true, true, true, true, true, true, true, true, true, true, true, true] rfl rfl (any_of HT_.out (by kernel_rfl)) (fun _ _ _ h => h) (Or.inl ⟨by rfl, ?_⟩) ?_ ?_
                      rotate_left
                      · intro w'
                        go_simp
                        with_reducible rfl
                      rotate_left
                      · simp only [Act.put, List.setIfInBounds_toArray, List.set_cons_zero, List.set_cons_succ, i64_w, i32_w]
                        rfl
                      refine done_ (done_of HT_.out (by kernel_rfl)) ?_
                      try go_wp2
                      go_ret
                      exact ⟨by first | rfl | (simp [errW_none, errW_some] <;> rfl) | (simp [*, errW_none, errW_some] <;> rfl), by repeat (first | (with_reducible first | exact HB.out | apply lA_17 | apply lN_17 | apply lD_17 | refine lS_17 ?_ GE282.out | refine lS_17 ?_ GE283.out | refine lS_17 ?_ GE284.out | refine lS_17 ?_ GE293.out | refine lS_17 ?_ GE302.out) | exact HB.out)⟩
                    · rw [if_neg c137] at H
                      have c137b0 : (t315 == t316) = false := by simpa using c137
                      (try (have c137b1 : decide (t315 = t316) = false := by simpa using c137))
                      (try (have c137b2 : (t315 == t316) = false := by simpa using c137))
                      (try (have c137b3 : ¬ (t315 = t316) := by simpa using c137))
                      clear c137
                      exact absurd ((Option.some.inj H).trans HRT.out) (by decide)
                  · rw [if_neg c134] at H
                    have c134b0 : (t312 == t314) = false := by simpa using c134
                    (try (have c134b1 : decide (t312 = t314) = false := by simpa using c134))
                    (try (have c134b2 : (t312 == t314) = false := by simpa using c134))
                    (try (have c134b3 : ¬ (t312 = t314) := by simpa using c134))
                    clear c134
                    exact absurd ((Option.some.inj H).trans HRT.out) (by decide)
                · replace c132 := Bool.eq_false_iff.mpr c132
                  subst c132
                  have H1 : (if (t312 == false) = true then ((tnum_In.f t299 t300 t303).bind fun t318 => ((tnum_In.f t287 t288 t303).bind fun t319 => (if (t318 == t319) = true then ((lockgatelaw03_known.f kj8).bind fun t320 => (some t320)) else (some false)))) else (some false)) = some r := by rw [if_neg (show ¬ (false = true) by decide)] at H; exact H
                  clear H
                  have H := H1
                  clear H1
                  by_cases c164 : (t312 == false) = true
                  · rw [if_pos c164] at H
                    have c164b0 : (t312 == false) = true := c164
                    (try (have c164b1 : decide (t312 = false) = true := by simpa using c164))
                    (try (have c164b2 : (t312 == false) = true := by simpa using c164))
                    clear c164
                    replace H := Option.bind_eq_some_iff.mp H
                    obtain ⟨t318, A1650, H⟩ := H
                    replace H : ((tnum_In.f t287 t288 t303).bind fun t319 => (if (t318 == t319) = true then ((lockgatelaw03_known.f kj8).bind fun t320 => (some t320)) else (some false))) = some r := H
                    have A165 := Aside0.mk A1650
                    clear A1650
                    replace H := Option.bind_eq_some_iff.mp H
                    obtain ⟨t319, A1660, H⟩ := H
                    replace H : (if (t318 == t319) = true then ((lockgatelaw03_known.f kj8).bind fun t320 => (some t320)) else (some false)) = some r := H
                    have A166 := Aside0.mk A1660
                    clear A1660
                    by_cases c167 : (t318 == t319) = true
                    · rw [if_pos c167] at H
                      have c167b0 : (t318 == t319) = true := c167
                      (try (have c167b1 : decide (t318 = t319) = true := by simpa using c167))
                      (try (have c167b2 : (t318 == t319) = true := by simpa using c167))
                      clear c167
                      replace H := Option.bind_eq_some_iff.mp H
                      obtain ⟨t320, A1680, H⟩ := H
                      replace H : (some t320) = some r := H
                      have A168 := Aside0.mk A1680
                      clear A1680
                      obtain rfl := Option.some.inj H
                      have hnb169 := NB282_283.out
                      have hnc169 := NB283_282.out
                      have hnb170 := NB282_284.out
                      have hnc170 := NB284_282.out
                      have hnb171 := NB282_293.out
                      have hnc171 := NB293_282.out
                      have hcz172_0 : wc.cell? ⟨gb282, 0, none⟩ = some (.int .u64 t285) := (blk_cell BK282.out 0).trans rfl
                      have hcz172_1 : wc.cell? ⟨gb282, 1, none⟩ = some (.int .u64 t286) := (blk_cell BK282.out 1).trans rfl
                      have hfz172_0 := blk_frozen BK282.out 0
                      have hfz172_1 := blk_frozen BK282.out 1
                      have hnb173 := NB283_284.out
                      have hnc173 := NB284_283.out
                      have hnb174 := NB283_293.out
                      have hnc174 := NB293_283.out
                      have hcz175_0 : wc.cell? ⟨gb283, 0, none⟩ = some (.int .u64 t287) := (blk_cell BK283.out 0).trans rfl
                      have hcz175_1 : wc.cell? ⟨gb283, 1, none⟩ = some (.int .u64 t288) := (blk_cell BK283.out 1).trans rfl
                      have hfz175_0 := blk_frozen BK283.out 0
                      have hfz175_1 := blk_frozen BK283.out 1
                      try go_wp2_with (first | ((with_reducible refine gate_callee (f := 23) rfl ?_); refine goesL_ (some 59) rfl rfl Try.func23 (by kernel_rfl) rfl #[.agg #[.int .u64 t285, .int .u64 t286], .agg #[.int .u64 t287, .int .u64 t288]] rfl (by (try simp only [List.map_toArray, List.map_cons, List.map_nil]); first | done | rfl) ?_; (with_reducible refine (tnum_Meet.calls t285 t286 t287 t288 t299 t300 true _ A122.out).mono ?_); rintro e w176 ⟨rfl, hb⟩; refine ⟨_, rfl, ?_⟩; have n0_ := Aside0.mk (blk_below (g := gb282) (o := .cells #[.int .u64 t285, .int .u64 t286] 24 (0, 0)) (by (with_reducible repeat (first | apply bN_17 | apply bD_17 | apply bA_17)); exact BK282.out) hb); have n1_ := Aside0.mk (blk_below (g := gb283) (o := .cells #[.int .u64 t287, .int .u64 t288] 24 (0, 0)) (by (with_reducible repeat (first | apply bN_17 | apply bD_17 | apply bA_17)); exact BK283.out) hb); have n2_ := Aside0.mk (blk_below (g := gb284) (o := .cells #[.int .u64 t289, .int .u64 t290] 24 (0, 0)) (by (with_reducible repeat (first | apply bN_17 | apply bD_17 | apply bA_17)); exact BK284.out) hb); have n3_ := Aside0.mk (blk_below (g := gb293) (o := .cells #[.int .u64 t291, .int .u64 t292] 24 (0, 0)) (by (with_reducible repeat (first | apply bN_17 | apply bD_17 | apply bA_17)); exact BK293.out) hb); have n4_ := Aside0.mk (below_step (by repeat (first | (with_reducible first | exact HB.out | apply lA_17 | apply lN_17 | apply lD_17 | refine lS_17 ?_ GE282.out | refine lS_17 ?_ GE283.out | refine lS_17 ?_ GE284.out | refine lS_17 ?_ GE293.out) | exact HB.out)) hb); clear BK282; clear BK283; clear BK284; clear BK293; clear HB; have BK282 := n0_; have BK283 := n1_; have BK284 := n2_; have BK293 := n3_; have HB := n4_; clear n0_ n1_ n2_ n3_ n4_; (try clear hb); (try clear hb2); (try clear hk); (try clear hi)) | ((with_reducible refine gate_dst (N := 10) rfl ?_); refine box_event ?hg (N := 10) ?hd (cs := #[.int .u64 0, .int .u64 0]) (t := 24) ?hr ?_; (case hd => rfl); (case hg => rfl); (case hr => first | (go_simp; done) | (go_simp; rfl)); intro gb302 hg w177 hbox hb; have n0_ := Aside0.mk (blk_below (g := gb282) (o := .cells #[.int .u64 t285, .int .u64 t286] 24 (0, 0)) (by (with_reducible repeat (first | apply bN_17 | apply bD_17 | apply bA_17)); exact BK282.out) hb); have n1_ := Aside0.mk (blk_below (g := gb283) (o := .cells #[.int .u64 t287, .int .u64 t288] 24 (0, 0)) (by (with_reducible repeat (first | apply bN_17 | apply bD_17 | apply bA_17)); exact BK283.out) hb); have n2_ := Aside0.mk (blk_below (g := gb284) (o := .cells #[.int .u64 t289, .int .u64 t290] 24 (0, 0)) (by (with_reducible repeat (first | apply bN_17 | apply bD_17 | apply bA_17)); exact BK284.out) hb); have n3_ := Aside0.mk (blk_below (g := gb293) (o := .cells #[.int .u64 t291, .int .u64 t292] 24 (0, 0)) (by (with_reducible repeat (first | apply bN_17 | apply bD_17 | apply bA_17)); exact BK293.out) hb); have n4_ := Aside0.mk (below_step (by repeat (first | (with_reducible first | exact HB.out | apply lA_17 | apply lN_17 | apply lD_17 | refine lS_17 ?_ GE282.out | refine lS_17 ?_ GE283.out | refine lS_17 ?_ GE284.out | refine lS_17 ?_ GE293.out) | exact HB.out)) hb); have n5_ := Aside0.mk (hbox); have n6_ := Aside0.mk ((by rw [hg]; exact (below_size (by repeat (first | (with_reducible first | exact HB.out | apply lA_17 | apply lN_17 | apply lD_17 | refine lS_17 ?_ GE282.out | refine lS_17 ?_ GE283.out | refine lS_17 ?_ GE284.out | refine lS_17 ?_ GE293.out) | exact HB.out))) : w.heap.size ≤ gb302)); have n7_ := Aside0.mk ((by rw [hg]; exact (below_size (by repeat (first | (with_reducible first | exact HB.out | apply lA_17 | apply lN_17 | apply lD_17 | refine lS_17 ?_ GE282.out | refine lS_17 ?_ GE283.out | refine lS_17 ?_ GE284.out | refine lS_17 ?_ GE293.out) | exact HB.out))) : w.heap.size ≤ gb302)); have n8_ := Aside0.mk ((by rw [hg]; exact Nat.ne_of_lt (blk_lt (g := gb282) (o := .cells #[.int .u64 t285, .int .u64 t286] 24 (0, 0)) (by (with_reducible repeat (first | apply bN_17 | apply bD_17 | apply bA_17)); exact BK282.out)) : gb282 ≠ gb302)); have n9_ := Aside0.mk ((by rw [hg]; exact Nat.ne_of_gt (blk_lt (g := gb282) (o := .cells #[.int .u64 t285, .int .u64 t286] 24 (0, 0)) (by (with_reducible repeat (first | apply bN_17 | apply bD_17 | apply bA_17)); exact BK282.out)) : gb302 ≠ gb282)); have n10_ := Aside0.mk ((by rw [hg]; exact Nat.ne_of_lt (blk_lt (g := gb283) (o := .cells #[.int .u64 t287, .int .u64 t288] 24 (0, 0)) (by (with_reducible repeat (first | apply bN_17 | apply bD_17 | apply bA_17)); exact BK283.out)) : gb283 ≠ gb302)); have n11_ := Aside0.mk ((by rw [hg]; exact Nat.ne_of_gt (blk_lt (g := gb283) (o := .cells #[.int .u64 t287, .int .u64 t288] 24 (0, 0)) (by (with_reducible repeat (first | apply bN_17 | apply bD_17 | apply bA_17)); exact BK283.out)) : gb302 ≠ gb283)); have n12_ := Aside0.mk ((by rw [hg]; exact Nat.ne_of_lt (blk_lt (g := gb284) (o := .cells #[.int .u64 t289, .int .u64 t290] 24 (0, 0)) (by (with_reducible repeat (first | apply bN_17 | apply bD_17 | apply bA_17)); exact BK284.out)) : gb284 ≠ gb302)); have n13_ := Aside0.mk ((by rw [hg]; exact Nat.ne_of_gt (blk_lt (g := gb284) (o := .cells #[.int .u64 t289, .int .u64 t290] 24 (0, 0)) (by (with_reducible repeat (first | apply bN_17 | apply bD_17 | apply bA_17)); exact BK284.out)) : gb302 ≠ gb284)); have n14_ := Aside0.mk ((by rw [hg]; exact Nat.ne_of_lt (blk_lt (g := gb293) (o := .cells #[.int .u64 t291, .int .u64 t292] 24 (0, 0)) (by (with_reducible repeat (first | apply bN_17 | apply bD_17 | apply bA_17)); exact BK293.out)) : gb293 ≠ gb302)); have n15_ := Aside0.mk ((by rw [hg]; exact Nat.ne_of_gt (blk_lt (g := gb293) (o := .cells #[.int .u64 t291, .int .u64 t292] 24 (0, 0)) (by (with_reducible repeat (first | apply bN_17 | apply bD_17 | apply bA_17)); exact BK293.out)) : gb302 ≠ gb293)); clear BK282; clear BK283; clear BK284; clear BK293; clear HB; have BK282 := n0_; have BK283 := n1_; have BK284 := n2_; have BK293 := n3_; have HB := n4_; have BK302 := n5_; have GW302 := n6_; have GE302 := n7_; have NB282_302 := n8_; have NB302_282 := n9_; have NB283_302 := n10_; have NB302_283 := n11_; have NB284_302 := n12_; have NB302_284 := n13_; have NB293_302 := n14_; have NB302_293 := n15_; clear n0_ n1_ n2_ n3_ n4_ n5_ n6_ n7_ n8_ n9_ n10_ n11_ n12_ n13_ n14_ n15_; clear hb hbox hg; have hnb178 := NB302_282.out; have hnc178 := NB282_302.out; have hnb179 := NB302_283.out; have hnc179 := NB283_302.out; have hnb180 := NB302_284.out; have hnc180 := NB284_302.out; have hnb181 := NB302_293.out; have hnc181 := NB293_302.out; have hcz182_0 : w177.cell? ⟨gb302, 0, none⟩ = some (.int .u64 0) := (blk_cell BK302.out 0).trans rfl; have hcz182_1 : w177.cell? ⟨gb302, 1, none⟩ = some (.int .u64 0) := (blk_cell BK302.out 1).trans rfl; have hfz182_0 := blk_frozen BK302.out 0; have hfz182_1 := blk_frozen BK302.out 1; have hcz183_0 : w177.cell? ⟨gb282, 0, none⟩ = some (.int .u64 t285) := (blk_cell BK282.out 0).trans rfl; have hcz183_1 : w177.cell? ⟨gb282, 1, none⟩ = some (.int .u64 t286) := (blk_cell BK282.out 1).trans rfl; have hfz183_0 := blk_frozen BK282.out 0; have hfz183_1 := blk_frozen BK282.out 1) | ((with_reducible refine gate_callee (f := 15) rfl ?_); refine goesL_ (some 64) rfl rfl Try.func15 (by kernel_rfl) rfl #[.agg #[.int .u64 t285, .int .u64 t286], .int .u64 a3] rfl (by (try simp only [List.map_toArray, List.map_cons, List.map_nil]); first | done | rfl) ?_; (with_reducible refine (lockgatelaw03_one.calls t285 t286 a3 t303 _ A123.out).mono ?_); rintro e w184 ⟨rfl, hb⟩; refine ⟨_, rfl, ?_⟩; have n0_ := Aside0.mk (blk_below (g := gb282) (o := .cells #[.int .u64 t285, .int .u64 t286] 24 (0, 0)) (by (with_reducible repeat (first | apply bN_17 | apply bD_17 | apply bA_17)); refine blk_far ?_ NB282_302.out _; (with_reducible repeat (first | apply bN_17 | apply bD_17 | apply bA_17)); refine blk_far ?_ NB282_302.out _; (with_reducible repeat (first | apply bN_17 | apply bD_17 | apply bA_17)); exact BK282.out) hb); have n1_ := Aside0.mk (blk_below (g := gb283) (o := .cells #[.int .u64 t287, .int .u64 t288] 24 (0, 0)) (by (with_reducible repeat (first | apply bN_17 | apply bD_17 | apply bA_17)); refine blk_far ?_ NB283_302.out _; (with_reducible repeat (first | apply bN_17 | apply bD_17 | apply bA_17)); refine blk_far ?_ NB283_302.out _; (with_reducible repeat (first | apply bN_17 | apply bD_17 | apply bA_17)); exact BK283.out) hb); have n2_ := Aside0.mk (blk_below (g := gb284) (o := .cells #[.int .u64 t289, .int .u64 t290] 24 (0, 0)) (by (with_reducible repeat (first | apply bN_17 | apply bD_17 | apply bA_17)); refine blk_far ?_ NB284_302.out _; (with_reducible repeat (first | apply bN_17 | apply bD_17 | apply bA_17)); refine blk_far ?_ NB284_302.out _; (with_reducible repeat (first | apply bN_17 | apply bD_17 | apply bA_17)); exact BK284.out) hb); have n3_ := Aside0.mk (blk_below (g := gb293) (o := .cells #[.int .u64 t291, .int .u64 t292] 24 (0, 0)) (by (with_reducible repeat (first | apply bN_17 | apply bD_17 | apply bA_17)); refine blk_far ?_ NB293_302.out _; (with_reducible repeat (first | apply bN_17 | apply bD_17 | apply bA_17)); refine blk_far ?_ NB293_302.out _; (with_reducible repeat (first | apply bN_17 | apply bD_17 | apply bA_17)); exact BK293.out) hb); have n4_ := Aside0.mk (blk_below (g := gb302) (o := .cells #[.int .u64 t299, .int .u64 t300] 24 (0, 0)) (by (with_reducible repeat (first | apply bN_17 | apply bD_17 | apply bA_17)); refine blk_put (cs := #[.int .u64 t299, .int .u64 0]) ?_ 1 _ rfl; (with_reducible repeat (first | apply bN_17 | apply bD_17 | apply bA_17)); refine blk_put (cs := #[.int .u64 0, .int .u64 0]) ?_ 0 _ rfl; (with_reducible repeat (first | apply bN_17 | apply bD_17 | apply bA_17)); exact BK302.out) hb); have n5_ := Aside0.mk (below_step (by repeat (first | (with_reducible first | exact HB.out | apply lA_17 | apply lN_17 | apply lD_17 | refine lS_17 ?_ GE282.out | refine lS_17 ?_ GE283.out | refine lS_17 ?_ GE284.out | refine lS_17 ?_ GE293.out | refine lS_17 ?_ GE302.out) | exact HB.out)) hb); clear BK282; clear BK283; clear BK284; clear BK293; clear BK302; clear HB; have BK282 := n0_; have BK283 := n1_; have BK284 := n2_; have BK293 := n3_; have BK302 := n4_; have HB := n5_; clear n0_ n1_ n2_ n3_ n4_ n5_; (try clear hb); (try clear hb2); (try clear hk); (try clear hi)))
                      have n0_ := Aside0.mk (blk_drew BK282.out)
                      have n1_ := Aside0.mk (blk_drew BK283.out)
                      have n2_ := Aside0.mk (blk_drew BK284.out)
                      have n3_ := Aside0.mk (blk_drew BK293.out)
                      have n4_ := Aside0.mk (blk_drew BK302.out)
                      have n5_ := Aside0.mk (below_drew1 HB.out)
                      clear BK282
                      clear BK283
                      clear BK284
                      clear BK293
                      clear BK302
                      clear HB
                      have BK282 := n0_
                      have BK283 := n1_
                      have BK284 := n2_
                      have BK293 := n3_
                      have BK302 := n4_
                      have HB := n5_
                      clear n0_ n1_ n2_ n3_ n4_ n5_
                      refine start_ (n := 43) (S := fun w' => w'.cell? ⟨gb302, 0, none⟩ = some (.int .u64 t299) ∧ w'.cell? ⟨gb302, 1, none⟩ = some (.int .u64 t300) ∧ w'.cell? ⟨gb282, 0, none⟩ = some (.int .u64 t285) ∧ w'.cell? ⟨gb282, 1, none⟩ = some (.int .u64 t286) ∧ w'.cell? ⟨gb283, 0, none⟩ = some (.int .u64 t287) ∧ w'.cell? ⟨gb283, 1, none⟩ = some (.int .u64 t288)) (ds := []) #[false, false, false, false, false, false, false, false, false, false, false, false, false, false, false, false, false, false, false, false, false, false, false, false, false, false, false, false, false, false, false, false, false, false, false, false, false, false, false, false, false, false, false] (by kernel_rfl) rfl rfl ⟨(blk_cell BK302.out 0).trans rfl, (blk_cell BK302.out 1).trans rfl, (blk_cell BK282.out 0).trans rfl, (blk_cell BK282.out 1).trans rfl, (blk_cell BK283.out 0).trans rfl, (blk_cell BK283.out 1).trans rfl⟩ (fun hHeld => ?_); refine with_tabW lockgatelaw03_TnumLattice.tab11 lockgatelaw03_TnumLattice.bits11 (fun HT_ HW_ => ?_)
                      generalize w184.drew = w185 at BK282 BK283 BK284 BK293 BK302 HB hHeld ⊢
                      refine pure_ (i := 0) (N := some 90) (v := ?_) (a' := ?_) #[true, false, false, false, false, false, false, false, false, false, false, false, false, false, false, false, false, false, false, false, false, false, false, false, false, false, false, false, false, false, false, false, false, false, false, false, false, false, false, false, false, false, false] rfl rfl (any_of HT_.out (by kernel_rfl)) (fun _ _ _ h => h) (Or.inl ⟨by rfl, ?_⟩) ?_ ?_
                      rotate_left
                      · intro w'
                        go_simp
                        with_reducible rfl
                      rotate_left
                      · simp only [Act.put, List.setIfInBounds_toArray, List.set_cons_zero, List.set_cons_succ, i64_w, i32_w]
                        rfl
                      refine pure_ (i := 2) (N := some 92) (v := ?_) (a' := ?_) #[true, false, true, false, false, false, false, false, false, false, false, false, false, false, false, false, false, false, false, false, false, false, false, false, false, false, false, false, false, false, false, false, false, false, false, false, false, false, false, false, false, false, false] rfl rfl (any_of HT_.out (by kernel_rfl)) (fun _ _ _ h => h) (Or.inl ⟨by rfl, ?_⟩) ?_ ?_
                      rotate_left
                      · intro w'
                        go_simp
                        with_reducible rfl
                      rotate_left
                      · simp only [Act.put, List.setIfInBounds_toArray, List.set_cons_zero, List.set_cons_succ, i64_w, i32_w]
                        rfl
                      refine take_ (i := 1) (N := some 91) (v := ?_) (a' := ?_) #[true, true, true, false, false, false, false, false, false, false, false, false, false, false, false, false, false, false, false, false, false, false, false, false, false, false, false, false, false, false, false, false, false, false, false, false, false, false, false, false, false, false, false] rfl rfl (take_ofW HT_.out HW_.out (by kernel_rfl)) (fun _ _ _ h => h) (Or.inl ⟨by rfl, ?_⟩) hHeld ?_ ?_
                      rotate_left
                      · rintro w' ⟨s0, s1, s2, s3, s4, s5⟩
                        go_simp
                        with_reducible rfl
                      rotate_left
                      · simp only [Act.put, List.setIfInBounds_toArray, List.set_cons_zero, List.set_cons_succ, i64_w, i32_w]
                        rfl
                      refine take_ (i := 3) (N := some 93) (v := ?_) (a' := ?_) #[true, true, true, true, false, false, false, false, false, false, false, false, false, false, false, false, false, false, false, false, false, false, false, false, false, false, false, false, false, false, false, false, false, false, false, false, false, false, false, false, false, false, false] rfl rfl (take_ofW HT_.out HW_.out (by kernel_rfl)) (fun _ _ _ h => h) (Or.inl ⟨by rfl, ?_⟩) hHeld ?_ ?_
                      rotate_left
                      · rintro w' ⟨s0, s1, s2, s3, s4, s5⟩
                        go_simp
                        with_reducible rfl
                      rotate_left
                      · simp only [Act.put, List.setIfInBounds_toArray, List.set_cons_zero, List.set_cons_succ, i64_w, i32_w]
                        rfl
                      refine pure_ (i := 4) (N := some 94) (v := ?_) (a' := ?_) #[true, true, true, true, true, false, false, false, false, false, false, false, false, false, false, false, false, false, false, false, false, false, false, false, false, false, false, false, false, false, false, false, false, false, false, false, false, false, false, false, false, false, false] rfl rfl (any_of HT_.out (by kernel_rfl)) (fun _ _ _ h => h) (Or.inl ⟨by rfl, ?_⟩) ?_ ?_
                      rotate_left
                      · intro w'
                        go_simp
                        with_reducible rfl
                      rotate_left
                      · simp only [Act.put, List.setIfInBounds_toArray, List.set_cons_zero, List.set_cons_succ, i64_w, i32_w]
                        rfl
                      refine pure_ (i := 5) (N := some 95) (v := ?_) (a' := ?_) #[true, true, true, true, true, true, false, false, false, false, false, false, false, false, false, false, false, false, false, false, false, false, false, false, false, false, false, false, false, false, false, false, false, false, false, false, false, false, false, false, false, false, false] rfl rfl (any_of HT_.out (by kernel_rfl)) (fun _ _ _ h => h) (Or.inl ⟨by rfl, ?_⟩) ?_ ?_
                      rotate_left
                      · intro w'
                        go_simp
                        with_reducible rfl
                      rotate_left
                      · simp only [Act.put, List.setIfInBounds_toArray, List.set_cons_zero, List.set_cons_succ, i64_w, i32_w]
                        rfl
                      refine pure_ (i := 6) (N := some 96) (v := ?_) (a' := ?_) #[true, true, true, true, true, true, true, false, false, false, false, false, false, false, false, false, false, false, false, false, false, false, false, false, false, false, false, false, false, false, false, false, false, false, false, false, false, false, false, false, false, false, false] rfl rfl (any_of HT_.out (by kernel_rfl)) (fun _ _ _ h => h) (Or.inl ⟨by rfl, ?_⟩) ?_ ?_
                      rotate_left
                      · intro w'
                        go_simp
                        with_reducible rfl
                      rotate_left
                      · simp only [Act.put, List.setIfInBounds_toArray, List.set_cons_zero, List.set_cons_succ, i64_w, i32_w]
                        rfl
                      refine take_ (i := 7) (N := some 97) (v := ?_) (a' := ?_) #[true, true, true, true, true, true, true, true, false, false, false, false, false, false, false, false, false, false, false, false, false, false, false, false, false, false, false, false, false, false, false, false, false, false, false, false, false, false, false, false, false, false, false] rfl rfl (take_ofW HT_.out HW_.out (by kernel_rfl)) (fun _ _ _ h => h) (Or.inl ⟨by rfl, ?_⟩) hHeld ?_ ?_
                      rotate_left
                      · rintro w' ⟨s0, s1, s2, s3, s4, s5⟩
                        go_simp
                        with_reducible rfl
                      rotate_left
                      · simp only [Act.put, List.setIfInBounds_toArray, List.set_cons_zero, List.set_cons_succ, i64_w, i32_w]
                        rfl
                      refine take_ (i := 8) (N := some 98) (v := ?_) (a' := ?_) #[true, true, true, true, true, true, true, true, true, false, false, false, false, false, false, false, false, false, false, false, false, false, false, false, false, false, false, false, false, false, false, false, false, false, false, false, false, false, false, false, false, false, false] rfl rfl (take_ofW HT_.out HW_.out (by kernel_rfl)) (fun _ _ _ h => h) (Or.inl ⟨by rfl, ?_⟩) hHeld ?_ ?_
                      rotate_left
                      · rintro w' ⟨s0, s1, s2, s3, s4, s5⟩
                        go_simp
                        with_reducible rfl
                      rotate_left
                      · simp only [Act.put, List.setIfInBounds_toArray, List.set_cons_zero, List.set_cons_succ, i64_w, i32_w]
                        rfl
                      refine one_ (i := 9) (N := some 99) #[true, true, true, true, true, true, true, true, true, true, false, false, false, false, false, false, false, false, false, false, false, false, false, false, false, false, false, false, false, false, false, false, false, false, false, false, false, false, false, false, false, false, false] rfl rfl (one_of HT_.out (by kernel_rfl)) (by decide) (fun K hK => ?_)
                      refine goes_ Try.func13 (by kernel_rfl) rfl #[.agg #[.int .u64 t299, .int .u64 t300], .agg #[.int .u64 t285, .int .u64 t286]] (by rfl) rfl rfl (by (try simp only [List.map_toArray, List.map_cons, List.map_nil]); first | done | rfl) ?_
                      with_reducible refine (tnum_Within.calls t299 t300 t285 t286 true _ A126.out).mono ?_
                      rintro e w186 ⟨rfl, hb⟩
                      refine ⟨_, rfl, ?_⟩
                      have n0_ := Aside0.mk (blk_below (g := gb282) (o := .cells #[.int .u64 t285, .int .u64 t286] 24 (0, 0)) (by (with_reducible repeat (first | apply bN_17 | apply bD_17 | apply bA_17)); exact BK282.out) hb)
                      have n1_ := Aside0.mk (blk_below (g := gb283) (o := .cells #[.int .u64 t287, .int .u64 t288] 24 (0, 0)) (by (with_reducible repeat (first | apply bN_17 | apply bD_17 | apply bA_17)); exact BK283.out) hb)
                      have n2_ := Aside0.mk (blk_below (g := gb284) (o := .cells #[.int .u64 t289, .int .u64 t290] 24 (0, 0)) (by (with_reducible repeat (first | apply bN_17 | apply bD_17 | apply bA_17)); exact BK284.out) hb)
                      have n3_ := Aside0.mk (blk_below (g := gb293) (o := .cells #[.int .u64 t291, .int .u64 t292] 24 (0, 0)) (by (with_reducible repeat (first | apply bN_17 | apply bD_17 | apply bA_17)); exact BK293.out) hb)
                      have n4_ := Aside0.mk (blk_below (g := gb302) (o := .cells #[.int .u64 t299, .int .u64 t300] 24 (0, 0)) (by (with_reducible repeat (first | apply bN_17 | apply bD_17 | apply bA_17)); exact BK302.out) hb)
                      have n5_ := Aside0.mk (below_step (by repeat (first | (with_reducible first | exact HB.out | apply lA_17 | apply lN_17 | apply lD_17 | refine lS_17 ?_ GE282.out | refine lS_17 ?_ GE283.out | refine lS_17 ?_ GE284.out | refine lS_17 ?_ GE293.out | refine lS_17 ?_ GE302.out) | exact HB.out)) hb)
                      clear BK282
                      clear BK283
                      clear BK284
                      clear BK293
                      clear BK302
                      clear HB
                      have BK282 := n0_
                      have BK283 := n1_
                      have BK284 := n2_
                      have BK293 := n3_
                      have BK302 := n4_
                      have HB := n5_
                      clear n0_ n1_ n2_ n3_ n4_ n5_
                      (try clear hb)
                      (try clear hb2)
                      (try clear hk)
                      (try clear hi)
                      refine hK.out _ _ ⟨(blk_cell BK302.out 0).trans rfl, (blk_cell BK302.out 1).trans rfl, (blk_cell BK282.out 0).trans rfl, (blk_cell BK282.out 1).trans rfl, (blk_cell BK283.out 0).trans rfl, (blk_cell BK283.out 1).trans rfl⟩ (fun hHeld => ?_)
                      clear hK K
                      refine norm_ (a' := ?_) ?_ ?_
                      rotate_left
                      · show Act.put _ (some 99) _ = _
                        simp only [Act.put, List.setIfInBounds_toArray, List.set_cons_zero, List.set_cons_succ, i64_w, i32_w]
                        rfl
                      refine pure_ (i := 10) (N := some 100) (v := ?_) (a' := ?_) #[true, true, true, true, true, true, true, true, true, true, true, false, false, false, false, false, false, false, false, false, false, false, false, false, false, false, false, false, false, false, false, false, false, false, false, false, false, false, false, false, false, false, false] rfl rfl (any_of HT_.out (by kernel_rfl)) (fun _ _ _ h => h) (Or.inl ⟨by rfl, ?_⟩) ?_ ?_
                      rotate_left
                      · intro w'
                        go_simp
                        with_reducible rfl
                      rotate_left
                      · simp only [Act.put, List.setIfInBounds_toArray, List.set_cons_zero, List.set_cons_succ, i64_w, i32_w]
                        rfl
                      refine pure_ (i := 11) (N := some 101) (v := ?_) (a' := ?_) #[true, true, true, true, true, true, true, true, true, true, true, true, false, false, false, false, false, false, false, false, false, false, false, false, false, false, false, false, false, false, false, false, false, false, false, false, false, false, false, false, false, false, false] rfl rfl (any_of HT_.out (by kernel_rfl)) (fun _ _ _ h => h) (Or.inl ⟨by rfl, ?_⟩) ?_ ?_
                      rotate_left
                      · intro w'
                        go_simp
                        with_reducible rfl
                      rotate_left
                      · simp only [Act.put, List.setIfInBounds_toArray, List.set_cons_zero, List.set_cons_succ, i64_w, i32_w]
                        rfl
                      refine take_ (i := 12) (N := some 102) (v := ?_) (a' := ?_) #[true, true, true, true, true, true, true, true, true, true, true, true, true, false, false, false, false, false, false, false, false, false, false, false, false, false, false, false, false, false, false, false, false, false, false, false, false, false, false, false, false, false, false] rfl rfl (take_ofW HT_.out HW_.out (by kernel_rfl)) (fun _ _ _ h => h) (Or.inl ⟨by rfl, ?_⟩) hHeld ?_ ?_
                      rotate_left
                      · rintro w' ⟨s0, s1, s2, s3, s4, s5⟩
                        go_simp
                        with_reducible rfl
                      rotate_left
                      · simp only [Act.put, List.setIfInBounds_toArray, List.set_cons_zero, List.set_cons_succ, i64_w, i32_w]
                        rfl
                      refine take_ (i := 13) (N := some 103) (v := ?_) (a' := ?_) #[true, true, true, true, true, true, true, true, true, true, true, true, true, true, false, false, false, false, false, false, false, false, false, false, false, false, false, false, false, false, false, false, false, false, false, false, false, false, false, false, false, false, false] rfl rfl (take_ofW HT_.out HW_.out (by kernel_rfl)) (fun _ _ _ h => h) (Or.inl ⟨by rfl, ?_⟩) hHeld ?_ ?_
                      rotate_left
                      · rintro w' ⟨s0, s1, s2, s3, s4, s5⟩
                        go_simp
                        with_reducible rfl
                      rotate_left
                      · simp only [Act.put, List.setIfInBounds_toArray, List.set_cons_zero, List.set_cons_succ, i64_w, i32_w]
                        rfl
                      refine one_ (i := 14) (N := some 104) #[true, true, true, true, true, true, true, true, true, true, true, true, true, true, true, false, false, false, false, false, false, false, false, false, false, false, false, false, false, false, false, false, false, false, false, false, false, false, false, false, false, false, false] rfl rfl (one_of HT_.out (by kernel_rfl)) (by decide) (fun K hK => ?_)
                      refine goes_ Try.func13 (by kernel_rfl) rfl #[.agg #[.int .u64 t299, .int .u64 t300], .agg #[.int .u64 t287, .int .u64 t288]] (by rfl) rfl rfl (by (try simp only [List.map_toArray, List.map_cons, List.map_nil]); first | done | rfl) ?_
                      with_reducible refine (tnum_Within.calls t299 t300 t287 t288 true _ A128.out).mono ?_
                      rintro e w187 ⟨rfl, hb⟩
                      refine ⟨_, rfl, ?_⟩
                      have n0_ := Aside0.mk (blk_below (g := gb282) (o := .cells #[.int .u64 t285, .int .u64 t286] 24 (0, 0)) (by (with_reducible repeat (first | apply bN_17 | apply bD_17 | apply bA_17)); exact BK282.out) hb)
                      have n1_ := Aside0.mk (blk_below (g := gb283) (o := .cells #[.int .u64 t287, .int .u64 t288] 24 (0, 0)) (by (with_reducible repeat (first | apply bN_17 | apply bD_17 | apply bA_17)); exact BK283.out) hb)
                      have n2_ := Aside0.mk (blk_below (g := gb284) (o := .cells #[.int .u64 t289, .int .u64 t290] 24 (0, 0)) (by (with_reducible repeat (first | apply bN_17 | apply bD_17 | apply bA_17)); exact BK284.out) hb)
                      have n3_ := Aside0.mk (blk_below (g := gb293) (o := .cells #[.int .u64 t291, .int .u64 t292] 24 (0, 0)) (by (with_reducible repeat (first | apply bN_17 | apply bD_17 | apply bA_17)); exact BK293.out) hb)
                      have n4_ := Aside0.mk (blk_below (g := gb302) (o := .cells #[.int .u64 t299, .int .u64 t300] 24 (0, 0)) (by (with_reducible repeat (first | apply bN_17 | apply bD_17 | apply bA_17)); exact BK302.out) hb)
                      have n5_ := Aside0.mk (below_step (by repeat (first | (with_reducible first | exact HB.out | apply lA_17 | apply lN_17 | apply lD_17 | refine lS_17 ?_ GE282.out | refine lS_17 ?_ GE283.out | refine lS_17 ?_ GE284.out | refine lS_17 ?_ GE293.out | refine lS_17 ?_ GE302.out) | exact HB.out)) hb)
                      clear BK282
                      clear BK283
                      clear BK284
                      clear BK293
                      clear BK302
                      clear HB
                      have BK282 := n0_
                      have BK283 := n1_
                      have BK284 := n2_
                      have BK293 := n3_
                      have BK302 := n4_
                      have HB := n5_
                      clear n0_ n1_ n2_ n3_ n4_ n5_
                      (try clear hb)
                      (try clear hb2)
                      (try clear hk)
                      (try clear hi)
                      refine hK.out _ _ ⟨(blk_cell BK302.out 0).trans rfl, (blk_cell BK302.out 1).trans rfl, (blk_cell BK282.out 0).trans rfl, (blk_cell BK282.out 1).trans rfl, (blk_cell BK283.out 0).trans rfl, (blk_cell BK283.out 1).trans rfl⟩ (fun hHeld => ?_)
                      clear hK K
                      refine norm_ (a' := ?_) ?_ ?_
                      rotate_left
                      · show Act.put _ (some 104) _ = _
                        simp only [Act.put, List.setIfInBounds_toArray, List.set_cons_zero, List.set_cons_succ, i64_w, i32_w]
                        rfl
                      refine pure_ (i := 15) (N := some 105) (v := ?_) (a' := ?_) #[true, true, true, true, true, true, true, true, true, true, true, true, true, true, true, true, false, false, false, false, false, false, false, false, false, false, false, false, false, false, false, false, false, false, false, false, false, false, false, false, false, false, false] rfl rfl (any_of HT_.out (by kernel_rfl)) (fun _ _ _ h => h) (Or.inl ⟨by rfl, ?_⟩) ?_ ?_
                      rotate_left
                      · intro w'
                        go_simp
                        with_reducible rfl
                      rotate_left
                      · simp only [Act.put, List.setIfInBounds_toArray, List.set_cons_zero, List.set_cons_succ, i64_w, i32_w]
                        rfl
                      refine pure_ (i := 16) (N := some 106) (v := ?_) (a' := ?_) #[true, true, true, true, true, true, true, true, true, true, true, true, true, true, true, true, true, false, false, false, false, false, false, false, false, false, false, false, false, false, false, false, false, false, false, false, false, false, false, false, false, false, false] rfl rfl (any_of HT_.out (by kernel_rfl)) (fun _ _ _ h => h) (Or.inl ⟨by rfl, ?_⟩) ?_ ?_
                      rotate_left
                      · intro w'
                        go_simp
                        with_reducible rfl
                      rotate_left
                      · simp only [Act.put, List.setIfInBounds_toArray, List.set_cons_zero, List.set_cons_succ, i64_w, i32_w]
                        rfl
                      refine pure_ (i := 18) (N := some 108) (v := ?_) (a' := ?_) #[true, true, true, true, true, true, true, true, true, true, true, true, true, true, true, true, true, false, true, false, false, false, false, false, false, false, false, false, false, false, false, false, false, false, false, false, false, false, false, false, false, false, false] rfl rfl (any_of HT_.out (by kernel_rfl)) (fun _ _ _ h => h) (Or.inl ⟨by rfl, ?_⟩) ?_ ?_
                      rotate_left
                      · intro w'
                        go_simp
                        with_reducible rfl
                      rotate_left
                      · simp only [Act.put, List.setIfInBounds_toArray, List.set_cons_zero, List.set_cons_succ, i64_w, i32_w]
                        rfl
                      refine pure_ (i := 21) (N := some 111) (v := ?_) (a' := ?_) #[true, true, true, true, true, true, true, true, true, true, true, true, true, true, true, true, true, false, true, false, false, true, false, false, false, false, false, false, false, false, false, false, false, false, false, false, false, false, false, false, false, false, false] rfl rfl (any_of HT_.out (by kernel_rfl)) (fun _ _ _ h => h) (Or.inl ⟨by rfl, ?_⟩) ?_ ?_
                      rotate_left
                      · intro w'
                        go_simp
                        with_reducible rfl
                      rotate_left
                      · simp only [Act.put, List.setIfInBounds_toArray, List.set_cons_zero, List.set_cons_succ, i64_w, i32_w]
                        rfl
                      refine take_ (i := 17) (N := some 107) (v := ?_) (a' := ?_) #[true, true, true, true, true, true, true, true, true, true, true, true, true, true, true, true, true, true, true, false, false, true, false, false, false, false, false, false, false, false, false, false, false, false, false, false, false, false, false, false, false, false, false] rfl rfl (take_ofW HT_.out HW_.out (by kernel_rfl)) (fun _ _ _ h => h) (Or.inl ⟨by rfl, ?_⟩) hHeld ?_ ?_
                      rotate_left
                      · rintro w' ⟨s0, s1, s2, s3, s4, s5⟩
                        go_simp
                        with_reducible rfl
                      rotate_left
                      · simp only [Act.put, List.setIfInBounds_toArray, List.set_cons_zero, List.set_cons_succ, i64_w, i32_w]
                        rfl
                      refine take_ (i := 20) (N := some 110) (v := ?_) (a' := ?_) #[true, true, true, true, true, true, true, true, true, true, true, true, true, true, true, true, true, true, true, false, true, true, false, false, false, false, false, false, false, false, false, false, false, false, false, false, false, false, false, false, false, false, false] rfl rfl (take_ofW HT_.out HW_.out (by kernel_rfl)) (fun _ _ _ h => h) (Or.inl ⟨by rfl, ?_⟩) hHeld ?_ ?_
                      rotate_left
                      · rintro w' ⟨s0, s1, s2, s3, s4, s5⟩
                        go_simp
                        with_reducible rfl
                      rotate_left
                      · simp only [Act.put, List.setIfInBounds_toArray, List.set_cons_zero, List.set_cons_succ, i64_w, i32_w]
                        rfl
                      refine one_ (i := 19) (N := some 109) #[true, true, true, true, true, true, true, true, true, true, true, true, true, true, true, true, true, true, true, true, true, true, false, false, false, false, false, false, false, false, false, false, false, false, false, false, false, false, false, false, false, false, false] rfl rfl (one_of HT_.out (by kernel_rfl)) (by decide) (fun K hK => ?_)
                      refine goes_ Try.func14 (by kernel_rfl) rfl #[.agg #[.int .u64 t299, .int .u64 t300], .int .u64 a3] (by rfl) rfl rfl (by (try simp only [List.map_toArray, List.map_cons, List.map_nil]); first | done | rfl) ?_
                      with_reducible refine (tnum_In.calls t299 t300 a3 t312 _ A130.out).mono ?_
                      rintro e w188 ⟨rfl, hb⟩
                      refine ⟨_, rfl, ?_⟩
                      have n0_ := Aside0.mk (blk_below (g := gb282) (o := .cells #[.int .u64 t285, .int .u64 t286] 24 (0, 0)) (by (with_reducible repeat (first | apply bN_17 | apply bD_17 | apply bA_17)); exact BK282.out) hb)
                      have n1_ := Aside0.mk (blk_below (g := gb283) (o := .cells #[.int .u64 t287, .int .u64 t288] 24 (0, 0)) (by (with_reducible repeat (first | apply bN_17 | apply bD_17 | apply bA_17)); exact BK283.out) hb)
                      have n2_ := Aside0.mk (blk_below (g := gb284) (o := .cells #[.int .u64 t289, .int .u64 t290] 24 (0, 0)) (by (with_reducible repeat (first | apply bN_17 | apply bD_17 | apply bA_17)); exact BK284.out) hb)
                      have n3_ := Aside0.mk (blk_below (g := gb293) (o := .cells #[.int .u64 t291, .int .u64 t292] 24 (0, 0)) (by (with_reducible repeat (first | apply bN_17 | apply bD_17 | apply bA_17)); exact BK293.out) hb)
                      have n4_ := Aside0.mk (blk_below (g := gb302) (o := .cells #[.int .u64 t299, .int .u64 t300] 24 (0, 0)) (by (with_reducible repeat (first | apply bN_17 | apply bD_17 | apply bA_17)); exact BK302.out) hb)
                      have n5_ := Aside0.mk (below_step (by repeat (first | (with_reducible first | exact HB.out | apply lA_17 | apply lN_17 | apply lD_17 | refine lS_17 ?_ GE282.out | refine lS_17 ?_ GE283.out | refine lS_17 ?_ GE284.out | refine lS_17 ?_ GE293.out | refine lS_17 ?_ GE302.out) | exact HB.out)) hb)
                      clear BK282
                      clear BK283
                      clear BK284
                      clear BK293
                      clear BK302
                      clear HB
                      have BK282 := n0_
                      have BK283 := n1_
                      have BK284 := n2_
                      have BK293 := n3_
                      have BK302 := n4_
                      have HB := n5_
                      clear n0_ n1_ n2_ n3_ n4_ n5_
                      (try clear hb)
                      (try clear hb2)
                      (try clear hk)
                      (try clear hi)
                      refine hK.out _ _ ⟨(blk_cell BK302.out 0).trans rfl, (blk_cell BK302.out 1).trans rfl, (blk_cell BK282.out 0).trans rfl, (blk_cell BK282.out 1).trans rfl, (blk_cell BK283.out 0).trans rfl, (blk_cell BK283.out 1).trans rfl⟩ (fun hHeld => ?_)
                      clear hK K
                      refine norm_ (a' := ?_) ?_ ?_
                      rotate_left
                      · show Act.put _ (some 109) _ = _
                        simp only [Act.put, List.setIfInBounds_toArray, List.set_cons_zero, List.set_cons_succ, i64_w, i32_w]
                        rfl
                      refine one_ (i := 22) (N := some 112) #[true, true, true, true, true, true, true, true, true, true, true, true, true, true, true, true, true, true, true, true, true, true, true, false, false, false, false, false, false, false, false, false, false, false, false, false, false, false, false, false, false, false, false] rfl rfl (one_of HT_.out (by kernel_rfl)) (by decide) (fun K hK => ?_)
                      refine goes_ Try.func14 (by kernel_rfl) rfl #[.agg #[.int .u64 t285, .int .u64 t286], .int .u64 a3] (by rfl) rfl rfl (by (try simp only [List.map_toArray, List.map_cons, List.map_nil]); first | done | rfl) ?_
                      with_reducible refine (tnum_In.calls t285 t286 a3 false _ A131.out).mono ?_
                      rintro e w189 ⟨rfl, hb⟩
                      refine ⟨_, rfl, ?_⟩
                      have n0_ := Aside0.mk (blk_below (g := gb282) (o := .cells #[.int .u64 t285, .int .u64 t286] 24 (0, 0)) (by (with_reducible repeat (first | apply bN_17 | apply bD_17 | apply bA_17)); exact BK282.out) hb)
                      have n1_ := Aside0.mk (blk_below (g := gb283) (o := .cells #[.int .u64 t287, .int .u64 t288] 24 (0, 0)) (by (with_reducible repeat (first | apply bN_17 | apply bD_17 | apply bA_17)); exact BK283.out) hb)
                      have n2_ := Aside0.mk (blk_below (g := gb284) (o := .cells #[.int .u64 t289, .int .u64 t290] 24 (0, 0)) (by (with_reducible repeat (first | apply bN_17 | apply bD_17 | apply bA_17)); exact BK284.out) hb)
                      have n3_ := Aside0.mk (blk_below (g := gb293) (o := .cells #[.int .u64 t291, .int .u64 t292] 24 (0, 0)) (by (with_reducible repeat (first | apply bN_17 | apply bD_17 | apply bA_17)); exact BK293.out) hb)
                      have n4_ := Aside0.mk (blk_below (g := gb302) (o := .cells #[.int .u64 t299, .int .u64 t300] 24 (0, 0)) (by (with_reducible repeat (first | apply bN_17 | apply bD_17 | apply bA_17)); exact BK302.out) hb)
                      have n5_ := Aside0.mk (below_step (by repeat (first | (with_reducible first | exact HB.out | apply lA_17 | apply lN_17 | apply lD_17 | refine lS_17 ?_ GE282.out | refine lS_17 ?_ GE283.out | refine lS_17 ?_ GE284.out | refine lS_17 ?_ GE293.out | refine lS_17 ?_ GE302.out) | exact HB.out)) hb)
                      clear BK282
                      clear BK283
                      clear BK284
                      clear BK293
                      clear BK302
                      clear HB
                      have BK282 := n0_
                      have BK283 := n1_
                      have BK284 := n2_
                      have BK293 := n3_
                      have BK302 := n4_
                      have HB := n5_
                      clear n0_ n1_ n2_ n3_ n4_ n5_
                      (try clear hb)
                      (try clear hb2)
                      (try clear hk)
                      (try clear hi)
                      refine hK.out _ _ ⟨(blk_cell BK302.out 0).trans rfl, (blk_cell BK302.out 1).trans rfl, (blk_cell BK282.out 0).trans rfl, (blk_cell BK282.out 1).trans rfl, (blk_cell BK283.out 0).trans rfl, (blk_cell BK283.out 1).trans rfl⟩ (fun hHeld => ?_)
                      clear hK K
                      refine norm_ (a' := ?_) ?_ ?_
                      rotate_left
                      · show Act.put _ (some 112) _ = _
                        simp only [Act.put, List.setIfInBounds_toArray, List.set_cons_zero, List.set_cons_succ, i64_w, i32_w]
                        rfl
                      refine pure_ (i := 23) (N := some 113) (v := ?_) (a' := ?_) #[true, true, true, true, true, true, true, true, true, true, true, true, true, true, true, true, true, true, true, true, true, true, true, true, false, false, false, false, false, false, false, false, false, false, false, false, false, false, false, false, false, false, false] rfl rfl (any_of HT_.out (by kernel_rfl)) (fun _ _ _ h => h) (Or.inl ⟨by rfl, ?_⟩) ?_ ?_
                      rotate_left
                      · intro w'
                        go_simp
                        with_reducible rfl
                      rotate_left
                      · simp only [Act.put, List.setIfInBounds_toArray, List.set_cons_zero, List.set_cons_succ, i64_w, i32_w]
                        rfl
                      refine pure_ (i := 24) (N := some 114) (v := undef) (a' := ?_) #[true, true, true, true, true, true, true, true, true, true, true, true, true, true, true, true, true, true, true, true, true, true, true, true, true, false, false, false, false, false, false, false, false, false, false, false, false, false, false, false, false, false, false] rfl rfl (any_of HT_.out (by kernel_rfl)) (fun _ _ _ h => h) (Or.inr ⟨by rfl, rfl⟩) ?_ ?_
                      rotate_left
                      · simp only [Act.put, List.setIfInBounds_toArray, List.set_cons_zero, List.set_cons_succ, i64_w, i32_w]
                        rfl
                      refine pure_ (i := 25) (N := some 115) (v := undef) (a' := ?_) #[true, true, true, true, true, true, true, true, true, true, true, true, true, true, true, true, true, true, true, true, true, true, true, true, true, true, false, false, false, false, false, false, false, false, false, false, false, false, false, false, false, false, false] rfl rfl (any_of HT_.out (by kernel_rfl)) (fun _ _ _ h => h) (Or.inr ⟨by rfl, rfl⟩) ?_ ?_
                      rotate_left
                      · simp only [Act.put, List.setIfInBounds_toArray, List.set_cons_zero, List.set_cons_succ, i64_w, i32_w]
                        rfl
                      refine pure_ (i := 26) (N := some 116) (v := undef) (a' := ?_) #[true, true, true, true, true, true, true, true, true, true, true, true, true, true, true, true, true, true, true, true, true, true, true, true, true, true, true, false, false, false, false, false, false, false, false, false, false, false, false, false, false, false, false] rfl rfl (any_of HT_.out (by kernel_rfl)) (fun _ _ _ h => h) (Or.inr ⟨by rfl, rfl⟩) ?_ ?_
                      rotate_left
                      · simp only [Act.put, List.setIfInBounds_toArray, List.set_cons_zero, List.set_cons_succ, i64_w, i32_w]
                        rfl
                      refine pure_ (i := 27) (N := some 117) (v := ?_) (a' := ?_) #[true, true, true, true, true, true, true, true, true, true, true, true, true, true, true, true, true, true, true, true, true, true, true, true, true, true, true, true, false, false, false, false, false, false, false, false, false, false, false, false, false, false, false] rfl rfl (any_of HT_.out (by kernel_rfl)) (fun _ _ _ h => h) (Or.inl ⟨by rfl, ?_⟩) ?_ ?_
                      rotate_left
                      · intro w'
                        go_simp
                        with_reducible rfl
                      rotate_left
                      · simp only [Act.put, List.setIfInBounds_toArray, List.set_cons_zero, List.set_cons_succ, i64_w, i32_w]
                        rfl
                      refine pure_ (i := 28) (N := some 118) (v := ?_) (a' := ?_) #[true, true, true, true, true, true, true, true, true, true, true, true, true, true, true, true, true, true, true, true, true, true, true, true, true, true, true, true, true, false, false, false, false, false, false, false, false, false, false, false, false, false, false] rfl rfl (any_of HT_.out (by kernel_rfl)) (fun _ _ _ h => h) (Or.inl ⟨by rfl, ?_⟩) ?_ ?_
                      rotate_left
                      · intro w'
                        go_simp
                        with_reducible rfl
                      rotate_left
                      · simp only [Act.put, List.setIfInBounds_toArray, List.set_cons_zero, List.set_cons_succ, i64_w, i32_w]
                        rfl
                      refine pure_ (i := 29) (N := some 119) (v := ?_) (a' := ?_) #[true, true, true, true, true, true, true, true, true, true, true, true, true, true, true, true, true, true, true, true, true, true, true, true, true, true, true, true, true, true, false, false, false, false, false, false, false, false, false, false, false, false, false] rfl rfl (any_of HT_.out (by kernel_rfl)) (fun _ _ _ h => h) (Or.inl ⟨by rfl, ?_⟩) ?_ ?_
                      rotate_left
                      · intro w'
                        go_simp
                        with_reducible rfl
                      rotate_left
                      · simp only [Act.put, List.setIfInBounds_toArray, List.set_cons_zero, List.set_cons_succ, i64_w, i32_w]
                        rfl
                      refine pure_ (i := 30) (N := some 120) (v := ?_) (a' := ?_) #[true, true, true, true, true, true, true, true, true, true, true, true, true, true, true, true, true, true, true, true, true, true, true, true, true, true, true, true, true, true, true, false, false, false, false, false, false, false, false, false, false, false, false] rfl rfl (any_of HT_.out (by kernel_rfl)) (fun _ _ _ h => h) (Or.inl ⟨by rfl, ?_⟩) ?_ ?_
                      rotate_left
                      · intro w'
                        go_simp
                        with_reducible rfl
                      rotate_left
                      · simp only [Act.put, List.setIfInBounds_toArray, List.set_cons_zero, List.set_cons_succ, i64_w, i32_w]
                        rfl
                      refine pure_ (i := 32) (N := some 122) (v := ?_) (a' := ?_) #[true, true, true, true, true, true, true, true, true, true, true, true, true, true, true, true, true, true, true, true, true, true, true, true, true, true, true, true, true, true, true, false, true, false, false, false, false, false, false, false, false, false, false] rfl rfl (any_of HT_.out (by kernel_rfl)) (fun _ _ _ h => h) (Or.inl ⟨by rfl, ?_⟩) ?_ ?_
                      rotate_left
                      · intro w'
                        go_simp
                        with_reducible rfl
                      rotate_left
                      · simp only [Act.put, List.setIfInBounds_toArray, List.set_cons_zero, List.set_cons_succ, i64_w, i32_w]
                        rfl
                      refine pure_ (i := 35) (N := some 125) (v := ?_) (a' := ?_) #[true, true, true, true, true, true, true, true, true, true, true, true, true, true, true, true, true, true, true, true, true, true, true, true, true, true, true, true, true, true, true, false, true, false, false, true, false, false, false, false, false, false, false] rfl rfl (any_of HT_.out (by kernel_rfl)) (fun _ _ _ h => h) (Or.inl ⟨by rfl, ?_⟩) ?_ ?_
                      rotate_left
                      · intro w'
                        go_simp
                        with_reducible rfl
                      rotate_left
                      · simp only [Act.put, List.setIfInBounds_toArray, List.set_cons_zero, List.set_cons_succ, i64_w, i32_w]
                        rfl
                      refine take_ (i := 31) (N := some 121) (v := ?_) (a' := ?_) #[true, true, true, true, true, true, true, true, true, true, true, true, true, true, true, true, true, true, true, true, true, true, true, true, true, true, true, true, true, true, true, true, true, false, false, true, false, false, false, false, false, false, false] rfl rfl (take_ofW HT_.out HW_.out (by kernel_rfl)) (fun _ _ _ h => h) (Or.inl ⟨by rfl, ?_⟩) hHeld ?_ ?_
                      rotate_left
                      · rintro w' ⟨s0, s1, s2, s3, s4, s5⟩
                        go_simp
                        with_reducible rfl
                      rotate_left
                      · simp only [Act.put, List.setIfInBounds_toArray, List.set_cons_zero, List.set_cons_succ, i64_w, i32_w]
                        rfl
                      refine take_ (i := 34) (N := some 124) (v := ?_) (a' := ?_) #[true, true, true, true, true, true, true, true, true, true, true, true, true, true, true, true, true, true, true, true, true, true, true, true, true, true, true, true, true, true, true, true, true, false, true, true, false, false, false, false, false, false, false] rfl rfl (take_ofW HT_.out HW_.out (by kernel_rfl)) (fun _ _ _ h => h) (Or.inl ⟨by rfl, ?_⟩) hHeld ?_ ?_
                      rotate_left
                      · rintro w' ⟨s0, s1, s2, s3, s4, s5⟩
                        go_simp
                        with_reducible rfl
                      rotate_left
                      · simp only [Act.put, List.setIfInBounds_toArray, List.set_cons_zero, List.set_cons_succ, i64_w, i32_w]
                        rfl
                      refine one_ (i := 33) (N := some 123) #[true, true, true, true, true, true, true, true, true, true, true, true, true, true, true, true, true, true, true, true, true, true, true, true, true, true, true, true, true, true, true, true, true, true, true, true, false, false, false, false, false, false, false] rfl rfl (one_of HT_.out (by kernel_rfl)) (by decide) (fun K hK => ?_)
                      refine goes_ Try.func14 (by kernel_rfl) rfl #[.agg #[.int .u64 t299, .int .u64 t300], .int .u64 t303] (by rfl) rfl rfl (by (try simp only [List.map_toArray, List.map_cons, List.map_nil]); first | done | rfl) ?_
                      with_reducible refine (tnum_In.calls t299 t300 t303 t318 _ A165.out).mono ?_
                      rintro e w190 ⟨rfl, hb⟩
                      refine ⟨_, rfl, ?_⟩
                      have n0_ := Aside0.mk (blk_below (g := gb282) (o := .cells #[.int .u64 t285, .int .u64 t286] 24 (0, 0)) (by (with_reducible repeat (first | apply bN_17 | apply bD_17 | apply bA_17)); exact BK282.out) hb)
                      have n1_ := Aside0.mk (blk_below (g := gb283) (o := .cells #[.int .u64 t287, .int .u64 t288] 24 (0, 0)) (by (with_reducible repeat (first | apply bN_17 | apply bD_17 | apply bA_17)); exact BK283.out) hb)
                      have n2_ := Aside0.mk (blk_below (g := gb284) (o := .cells #[.int .u64 t289, .int .u64 t290] 24 (0, 0)) (by (with_reducible repeat (first | apply bN_17 | apply bD_17 | apply bA_17)); exact BK284.out) hb)
                      have n3_ := Aside0.mk (blk_below (g := gb293) (o := .cells #[.int .u64 t291, .int .u64 t292] 24 (0, 0)) (by (with_reducible repeat (first | apply bN_17 | apply bD_17 | apply bA_17)); exact BK293.out) hb)
                      have n4_ := Aside0.mk (blk_below (g := gb302) (o := .cells #[.int .u64 t299, .int .u64 t300] 24 (0, 0)) (by (with_reducible repeat (first | apply bN_17 | apply bD_17 | apply bA_17)); exact BK302.out) hb)
                      have n5_ := Aside0.mk (below_step (by repeat (first | (with_reducible first | exact HB.out | apply lA_17 | apply lN_17 | apply lD_17 | refine lS_17 ?_ GE282.out | refine lS_17 ?_ GE283.out | refine lS_17 ?_ GE284.out | refine lS_17 ?_ GE293.out | refine lS_17 ?_ GE302.out) | exact HB.out)) hb)
                      clear BK282
                      clear BK283
                      clear BK284
                      clear BK293
                      clear BK302
                      clear HB
                      have BK282 := n0_
                      have BK283 := n1_
                      have BK284 := n2_
                      have BK293 := n3_
                      have BK302 := n4_
                      have HB := n5_
                      clear n0_ n1_ n2_ n3_ n4_ n5_
                      (try clear hb)
                      (try clear hb2)
                      (try clear hk)
                      (try clear hi)
                      refine hK.out _ _ ⟨(blk_cell BK302.out 0).trans rfl, (blk_cell BK302.out 1).trans rfl, (blk_cell BK282.out 0).trans rfl, (blk_cell BK282.out 1).trans rfl, (blk_cell BK283.out 0).trans rfl, (blk_cell BK283.out 1).trans rfl⟩ (fun hHeld => ?_)
                      clear hK K
                      refine norm_ (a' := ?_) ?_ ?_
                      rotate_left
                      · show Act.put _ (some 123) _ = _
                        simp only [Act.put, List.setIfInBounds_toArray, List.set_cons_zero, List.set_cons_succ, i64_w, i32_w]
                        rfl
                      refine one_ (i := 36) (N := some 126) #[true, true, true, true, true, true, true, true, true, true, true, true, true, true, true, true, true, true, true, true, true, true, true, true, true, true, true, true, true, true, true, true, true, true, true, true, true, false, false, false, false, false, false] rfl rfl (one_of HT_.out (by kernel_rfl)) (by decide) (fun K hK => ?_)
                      refine goes_ Try.func14 (by kernel_rfl) rfl #[.agg #[.int .u64 t287, .int .u64 t288], .int .u64 t303] (by rfl) rfl rfl (by (try simp only [List.map_toArray, List.map_cons, List.map_nil]); first | done | rfl) ?_
                      with_reducible refine (tnum_In.calls t287 t288 t303 t319 _ A166.out).mono ?_
                      rintro e w191 ⟨rfl, hb⟩
                      refine ⟨_, rfl, ?_⟩
                      have n0_ := Aside0.mk (blk_below (g := gb282) (o := .cells #[.int .u64 t285, .int .u64 t286] 24 (0, 0)) (by (with_reducible repeat (first | apply bN_17 | apply bD_17 | apply bA_17)); exact BK282.out) hb)
                      have n1_ := Aside0.mk (blk_below (g := gb283) (o := .cells #[.int .u64 t287, .int .u64 t288] 24 (0, 0)) (by (with_reducible repeat (first | apply bN_17 | apply bD_17 | apply bA_17)); exact BK283.out) hb)
                      have n2_ := Aside0.mk (blk_below (g := gb284) (o := .cells #[.int .u64 t289, .int .u64 t290] 24 (0, 0)) (by (with_reducible repeat (first | apply bN_17 | apply bD_17 | apply bA_17)); exact BK284.out) hb)
                      have n3_ := Aside0.mk (blk_below (g := gb293) (o := .cells #[.int .u64 t291, .int .u64 t292] 24 (0, 0)) (by (with_reducible repeat (first | apply bN_17 | apply bD_17 | apply bA_17)); exact BK293.out) hb)
                      have n4_ := Aside0.mk (blk_below (g := gb302) (o := .cells #[.int .u64 t299, .int .u64 t300] 24 (0, 0)) (by (with_reducible repeat (first | apply bN_17 | apply bD_17 | apply bA_17)); exact BK302.out) hb)
                      have n5_ := Aside0.mk (below_step (by repeat (first | (with_reducible first | exact HB.out | apply lA_17 | apply lN_17 | apply lD_17 | refine lS_17 ?_ GE282.out | refine lS_17 ?_ GE283.out | refine lS_17 ?_ GE284.out | refine lS_17 ?_ GE293.out | refine lS_17 ?_ GE302.out) | exact HB.out)) hb)
                      clear BK282
                      clear BK283
                      clear BK284
                      clear BK293
                      clear BK302
                      clear HB
                      have BK282 := n0_
                      have BK283 := n1_
                      have BK284 := n2_
                      have BK293 := n3_
                      have BK302 := n4_
                      have HB := n5_
                      clear n0_ n1_ n2_ n3_ n4_ n5_
                      (try clear hb)
                      (try clear hb2)
                      (try clear hk)
                      (try clear hi)
                      refine hK.out _ _ ⟨(blk_cell BK302.out 0).trans rfl, (blk_cell BK302.out 1).trans rfl, (blk_cell BK282.out 0).trans rfl, (blk_cell BK282.out 1).trans rfl, (blk_cell BK283.out 0).trans rfl, (blk_cell BK283.out 1).trans rfl⟩ (fun hHeld => ?_)
                      clear hK K
                      refine norm_ (a' := ?_) ?_ ?_
                      rotate_left
                      · show Act.put _ (some 126) _ = _
                        simp only [Act.put, List.setIfInBounds_toArray, List.set_cons_zero, List.set_cons_succ, i64_w, i32_w]
                        rfl
                      refine pure_ (i := 37) (N := some 127) (v := ?_) (a' := ?_) #[true, true, true, true, true, true, true, true, true, true, true, true, true, true, true, true, true, true, true, true, true, true, true, true, true, true, true, true, true, true, true, true, true, true, true, true, true, true, false, false, false, false, false] rfl rfl (any_of HT_.out (by kernel_rfl)) (fun _ _ _ h => h) (Or.inl ⟨by rfl, ?_⟩) ?_ ?_
                      rotate_left
                      · intro w'
                        go_simp
                        with_reducible rfl
                      rotate_left
                      · simp only [Act.put, List.setIfInBounds_toArray, List.set_cons_zero, List.set_cons_succ, i64_w, i32_w]
                        rfl
                      refine pure_ (i := 38) (N := some 128) (v := ?_) (a' := ?_) #[true, true, true, true, true, true, true, true, true, true, true, true, true, true, true, true, true, true, true, true, true, true, true, true, true, true, true, true, true, true, true, true, true, true, true, true, true, true, true, false, false, false, false] rfl rfl (any_of HT_.out (by kernel_rfl)) (fun _ _ _ h => h) (Or.inl ⟨by rfl, ?_⟩) ?_ ?_
                      rotate_left
                      · intro w'
                        go_simp
                        with_reducible rfl
                      rotate_left
                      · simp only [Act.put, List.setIfInBounds_toArray, List.set_cons_zero, List.set_cons_succ, i64_w, i32_w]
                        rfl
                      refine pure_ (i := 39) (N := some 129) (v := ?_) (a' := ?_) #[true, true, true, true, true, true, true, true, true, true, true, true, true, true, true, true, true, true, true, true, true, true, true, true, true, true, true, true, true, true, true, true, true, true, true, true, true, true, true, true, false, false, false] rfl rfl (any_of HT_.out (by kernel_rfl)) (fun _ _ _ h => h) (Or.inl ⟨by rfl, ?_⟩) ?_ ?_
                      rotate_left
                      · intro w'
                        go_simp
                        with_reducible rfl
                      rotate_left
                      · simp only [Act.put, List.setIfInBounds_toArray, List.set_cons_zero, List.set_cons_succ, i64_w, i32_w]
                        rfl
                      refine one_ (i := 40) (N := some 130) #[true, true, true, true, true, true, true, true, true, true, true, true, true, true, true, true, true, true, true, true, true, true, true, true, true, true, true, true, true, true, true, true, true, true, true, true, true, true, true, true, true, false, false] rfl rfl (one_of HT_.out (by kernel_rfl)) (by decide) (fun K hK => ?_)
                      refine goes_ Try.func16 (by kernel_rfl) rfl #[] (by rfl) rfl rfl (by (try simp only [List.map_toArray, List.map_cons, List.map_nil]); first | done | rfl) ?_
                      with_reducible refine (lockgatelaw03_known.calls kj8  t320 _ A168.out).mono ?_
                      rintro e w192 ⟨rfl, hb⟩
                      refine ⟨_, rfl, ?_⟩
                      have n0_ := Aside0.mk (blk_below (g := gb282) (o := .cells #[.int .u64 t285, .int .u64 t286] 24 (0, 0)) (by (with_reducible repeat (first | apply bN_17 | apply bD_17 | apply bA_17)); exact BK282.out) hb)
                      have n1_ := Aside0.mk (blk_below (g := gb283) (o := .cells #[.int .u64 t287, .int .u64 t288] 24 (0, 0)) (by (with_reducible repeat (first | apply bN_17 | apply bD_17 | apply bA_17)); exact BK283.out) hb)
                      have n2_ := Aside0.mk (blk_below (g := gb284) (o := .cells #[.int .u64 t289, .int .u64 t290] 24 (0, 0)) (by (with_reducible repeat (first | apply bN_17 | apply bD_17 | apply bA_17)); exact BK284.out) hb)
                      have n3_ := Aside0.mk (blk_below (g := gb293) (o := .cells #[.int .u64 t291, .int .u64 t292] 24 (0, 0)) (by (with_reducible repeat (first | apply bN_17 | apply bD_17 | apply bA_17)); exact BK293.out) hb)
                      have n4_ := Aside0.mk (blk_below (g := gb302) (o := .cells #[.int .u64 t299, .int .u64 t300] 24 (0, 0)) (by (with_reducible repeat (first | apply bN_17 | apply bD_17 | apply bA_17)); exact BK302.out) hb)
                      have n5_ := Aside0.mk (below_step (by repeat (first | (with_reducible first | exact HB.out | apply lA_17 | apply lN_17 | apply lD_17 | refine lS_17 ?_ GE282.out | refine lS_17 ?_ GE283.out | refine lS_17 ?_ GE284.out | refine lS_17 ?_ GE293.out | refine lS_17 ?_ GE302.out) | exact HB.out)) hb)
                      clear BK282
                      clear BK283
                      clear BK284
                      clear BK293
                      clear BK302
                      clear HB
                      have BK282 := n0_
                      have BK283 := n1_
                      have BK284 := n2_
                      have BK293 := n3_
                      have BK302 := n4_
                      have HB := n5_
                      clear n0_ n1_ n2_ n3_ n4_ n5_
                      (try clear hb)
                      (try clear hb2)
                      (try clear hk)
                      (try clear hi)
                      refine hK.out _ _ ⟨(blk_cell BK302.out 0).trans rfl, (blk_cell BK302.out 1).trans rfl, (blk_cell BK282.out 0).trans rfl, (blk_cell BK282.out 1).trans rfl, (blk_cell BK283.out 0).trans rfl, (blk_cell BK283.out 1).trans rfl⟩ (fun hHeld => ?_)
                      clear hK K
                      refine norm_ (a' := ?_) ?_ ?_
                      rotate_left
                      · show Act.put _ (some 130) _ = _
                        simp only [Act.put, List.setIfInBounds_toArray, List.set_cons_zero, List.set_cons_succ, i64_w, i32_w]
                        rfl
                      refine pure_ (i := 41) (N := some 131) (v := ?_) (a' := ?_) #[true, true, true, true, true, true, true, true, true, true, true, true, true, true, true, true, true, true, true, true, true, true, true, true, true, true, true, true, true, true, true, true, true, true, true, true, true, true, true, true, true, true, false] rfl rfl (any_of HT_.out (by kernel_rfl)) (fun _ _ _ h => h) (Or.inl ⟨by rfl, ?_⟩) ?_ ?_
                      rotate_left
                      · intro w'
                        go_simp
                        with_reducible rfl
                      rotate_left
                      · simp only [Act.put, List.setIfInBounds_toArray, List.set_cons_zero, List.set_cons_succ, i64_w, i32_w]
                        rfl
                      refine pure_ (i := 42) (N := some 8) (v := ?_) (a' := ?_) #[true, true, true, true, true, true, true, true, true, true, true, true, true, true, true, true, true, true, true, true, true, true, true, true, true, true, true, true, true, true, true, true, true, true, true, true, true, true, true, true, true, true, true] rfl rfl (any_of HT_.out (by kernel_rfl)) (fun _ _ _ h => h) (Or.inl ⟨by rfl, ?_⟩) ?_ ?_
                      rotate_left
                      · intro w'
                        go_simp
                        with_reducible rfl
                      rotate_left
                      · simp only [Act.put, List.setIfInBounds_toArray, List.set_cons_zero, List.set_cons_succ, i64_w, i32_w]
                        rfl
                      refine done_ (done_of HT_.out (by kernel_rfl)) ?_
                      try go_wp2
                      go_ret
                      exact ⟨by first | rfl | (simp [errW_none, errW_some] <;> rfl) | (simp [*, errW_none, errW_some] <;> rfl), by repeat (first | (with_reducible first | exact HB.out | apply lA_17 | apply lN_17 | apply lD_17 | refine lS_17 ?_ GE282.out | refine lS_17 ?_ GE283.out | refine lS_17 ?_ GE284.out | refine lS_17 ?_ GE293.out | refine lS_17 ?_ GE302.out) | exact HB.out)⟩
                    · rw [if_neg c167] at H
                      have c167b0 : (t318 == t319) = false := by simpa using c167
                      (try (have c167b1 : decide (t318 = t319) = false := by simpa using c167))
                      (try (have c167b2 : (t318 == t319) = false := by simpa using c167))
                      (try (have c167b3 : ¬ (t318 = t319) := by simpa using c167))
                      clear c167
                      exact absurd ((Option.some.inj H).trans HRT.out) (by decide)
                  · rw [if_neg c164] at H
                    have c164b0 : (t312 == false) = false := by simpa using c164
                    (try (have c164b1 : decide (t312 = false) = false := by simpa using c164))
                    (try (have c164b2 : (t312 == false) = false := by simpa using c164))
                    (try (have c164b3 : ¬ (t312 = false) := by simpa using c164))
                    clear c164
                    exact absurd ((Option.some.inj H).trans HRT.out) (by decide)
              · replace c129 := Bool.eq_false_iff.mpr c129
                subst c129
                have H1 : (some false) = some r := by rw [if_neg (show ¬ (false = true) by decide)] at H; exact H
                clear H
                have H := H1
                clear H1
                exact absurd ((Option.some.inj H).trans HRT.out) (by decide)
            · replace c127 := Bool.eq_false_iff.mpr c127
              subst c127
              have H1 : (some false) = some r := by rw [if_neg (show ¬ (false = true) by decide)] at H; exact H
              clear H
              have H := H1
              clear H1
              exact absurd ((Option.some.inj H).trans HRT.out) (by decide)
          · rw [if_neg c125] at H
            have c125b0 : ((Go.bits .and .u64 t299 t300) == 0) = false := beq_eq_false_iff_ne.mpr c125
            have c125b1 : ((Go.bits .and .u64 t299 t300) != 0) = true := bne_iff_ne.mpr c125
            exact absurd ((Option.some.inj H).trans HRT.out) (by decide)
        · replace c124 := Bool.eq_false_iff.mpr c124
          subst c124
          have H1 : (if (t299 == 0 && (t300 == 0)) = true then ((tnum_In.f t285 t286 a3).bind fun t304 => (if t304 = true then ((tnum_In.f t287 t288 a3).bind fun t305 => (if t305 = true then (some false) else ((tnum_In.f t287 t288 t303).bind fun t306 => (if t306 = true then (some false) else ((lockgatelaw03_known.f kj8).bind fun t307 => (some t307)))))) else ((tnum_In.f t287 t288 t303).bind fun t308 => (if t308 = true then (some false) else ((lockgatelaw03_known.f kj8).bind fun t309 => (some t309)))))) else (some false)) = some r := by rw [if_neg (show ¬ (false = true) by decide)] at H; exact H
          clear H
          have H := H1
          clear H1
          by_cases c193 : (t299 == 0 && (t300 == 0)) = true
          · rw [if_pos c193] at H
            have c193b0 : (t299 == 0 && (t300 == 0)) = true := c193
            (try (have c193b1 : decide (t299 = 0 && (t300 == 0)) = true := by simpa using c193))
            (try (have c193b2 : (t299 == 0 && (t300 == 0)) = true := by simpa using c193))
            clear c193
            replace H := Option.bind_eq_some_iff.mp H
            obtain ⟨t304, A1940, H⟩ := H
            replace H : (if t304 = true then ((tnum_In.f t287 t288 a3).bind fun t305 => (if t305 = true then (some false) else ((tnum_In.f t287 t288 t303).bind fun t306 => (if t306 = true then (some false) else ((lockgatelaw03_known.f kj8).bind fun t307 => (some t307)))))) else ((tnum_In.f t287 t288 t303).bind fun t308 => (if t308 = true then (some false) else ((lockgatelaw03_known.f kj8).bind fun t309 => (some t309))))) = some r := H
            have A194 := Aside0.mk A1940
            clear A1940
            by_cases c195 : t304 = true
            · subst c195
              have H1 : ((tnum_In.f t287 t288 a3).bind fun t305 => (if t305 = true then (some false) else ((tnum_In.f t287 t288 t303).bind fun t306 => (if t306 = true then (some false) else ((lockgatelaw03_known.f kj8).bind fun t307 => (some t307)))))) = some r := by rw [if_pos rfl] at H; exact H
              clear H
              have H := H1
              clear H1
              replace H := Option.bind_eq_some_iff.mp H
              obtain ⟨t305, A1960, H⟩ := H
              replace H : (if t305 = true then (some false) else ((tnum_In.f t287 t288 t303).bind fun t306 => (if t306 = true then (some false) else ((lockgatelaw03_known.f kj8).bind fun t307 => (some t307))))) = some r := H
              have A196 := Aside0.mk A1960
              clear A1960
              by_cases c197 : t305 = true
              · subst c197
                have H1 : (some false) = some r := by rw [if_pos rfl] at H; exact H
                clear H
                have H := H1
                clear H1
                exact absurd ((Option.some.inj H).trans HRT.out) (by decide)
              · replace c197 := Bool.eq_false_iff.mpr c197
                subst c197
                have H1 : ((tnum_In.f t287 t288 t303).bind fun t306 => (if t306 = true then (some false) else ((lockgatelaw03_known.f kj8).bind fun t307 => (some t307)))) = some r := by rw [if_neg (show ¬ (false = true) by decide)] at H; exact H
                clear H
                have H := H1
                clear H1
                replace H := Option.bind_eq_some_iff.mp H
                obtain ⟨t306, A1980, H⟩ := H
                replace H : (if t306 = true then (some false) else ((lockgatelaw03_known.f kj8).bind fun t307 => (some t307))) = some r := H
                have A198 := Aside0.mk A1980
                clear A1980
                by_cases c199 : t306 = true
                · subst c199
                  have H1 : (some false) = some r := by rw [if_pos rfl] at H; exact H
                  clear H
                  have H := H1
                  clear H1
                  exact absurd ((Option.some.inj H).trans HRT.out) (by decide)
                · replace c199 := Bool.eq_false_iff.mpr c199
                  subst c199
                  have H1 : ((lockgatelaw03_known.f kj8).bind fun t307 => (some t307)) = some r := by rw [if_neg (show ¬ (false = true) by decide)] at H; exact H
                  clear H
                  have H := H1
                  clear H1
                  replace H := Option.bind_eq_some_iff.mp H
                  obtain ⟨t307, A2000, H⟩ := H
                  replace H : (some t307) = some r := H
                  have A200 := Aside0.mk A2000
                  clear A2000
                  obtain rfl := Option.some.inj H
                  have hnb201 := NB282_283.out
                  have hnc201 := NB283_282.out
                  have hnb202 := NB282_284.out
                  have hnc202 := NB284_282.out
                  have hnb203 := NB282_293.out
                  have hnc203 := NB293_282.out
                  have hcz204_0 : wc.cell? ⟨gb282, 0, none⟩ = some (.int .u64 t285) := (blk_cell BK282.out 0).trans rfl
                  have hcz204_1 : wc.cell? ⟨gb282, 1, none⟩ = some (.int .u64 t286) := (blk_cell BK282.out 1).trans rfl
                  have hfz204_0 := blk_frozen BK282.out 0
                  have hfz204_1 := blk_frozen BK282.out 1
                  have hnb205 := NB283_284.out
                  have hnc205 := NB284_283.out
                  have hnb206 := NB283_293.out
                  have hnc206 := NB293_283.out
                  have hcz207_0 : wc.cell? ⟨gb283, 0, none⟩ = some (.int .u64 t287) := (blk_cell BK283.out 0).trans rfl
                  have hcz207_1 : wc.cell? ⟨gb283, 1, none⟩ = some (.int .u64 t288) := (blk_cell BK283.out 1).trans rfl
                  have hfz207_0 := blk_frozen BK283.out 0
                  have hfz207_1 := blk_frozen BK283.out 1
                  go_wp2_with (first | ((with_reducible refine gate_callee (f := 23) rfl ?_); refine goesL_ (some 59) rfl rfl Try.func23 (by kernel_rfl) rfl #[.agg #[.int .u64 t285, .int .u64 t286], .agg #[.int .u64 t287, .int .u64 t288]] rfl (by (try simp only [List.map_toArray, List.map_cons, List.map_nil]); first | done | rfl) ?_; (with_reducible refine (tnum_Meet.calls t285 t286 t287 t288 t299 t300 false _ A122.out).mono ?_); rintro e w208 ⟨rfl, hb⟩; refine ⟨_, rfl, ?_⟩; have n0_ := Aside0.mk (blk_below (g := gb282) (o := .cells #[.int .u64 t285, .int .u64 t286] 24 (0, 0)) (by (with_reducible repeat (first | apply bN_17 | apply bD_17 | apply bA_17)); exact BK282.out) hb); have n1_ := Aside0.mk (blk_below (g := gb283) (o := .cells #[.int .u64 t287, .int .u64 t288] 24 (0, 0)) (by (with_reducible repeat (first | apply bN_17 | apply bD_17 | apply bA_17)); exact BK283.out) hb); have n2_ := Aside0.mk (blk_below (g := gb284) (o := .cells #[.int .u64 t289, .int .u64 t290] 24 (0, 0)) (by (with_reducible repeat (first | apply bN_17 | apply bD_17 | apply bA_17)); exact BK284.out) hb); have n3_ := Aside0.mk (blk_below (g := gb293) (o := .cells #[.int .u64 t291, .int .u64 t292] 24 (0, 0)) (by (with_reducible repeat (first | apply bN_17 | apply bD_17 | apply bA_17)); exact BK293.out) hb); have n4_ := Aside0.mk (below_step (by repeat (first | (with_reducible first | exact HB.out | apply lA_17 | apply lN_17 | apply lD_17 | refine lS_17 ?_ GE282.out | refine lS_17 ?_ GE283.out | refine lS_17 ?_ GE284.out | refine lS_17 ?_ GE293.out) | exact HB.out)) hb); clear BK282; clear BK283; clear BK284; clear BK293; clear HB; have BK282 := n0_; have BK283 := n1_; have BK284 := n2_; have BK293 := n3_; have HB := n4_; clear n0_ n1_ n2_ n3_ n4_; (try clear hb); (try clear hb2); (try clear hk); (try clear hi)) | ((with_reducible refine gate_dst (N := 10) rfl ?_); refine box_event ?hg (N := 10) ?hd (cs := #[.int .u64 0, .int .u64 0]) (t := 24) ?hr ?_; (case hd => rfl); (case hg => rfl); (case hr => first | (go_simp; done) | (go_simp; rfl)); intro gb302 hg w209 hbox hb; have n0_ := Aside0.mk (blk_below (g := gb282) (o := .cells #[.int .u64 t285, .int .u64 t286] 24 (0, 0)) (by (with_reducible repeat (first | apply bN_17 | apply bD_17 | apply bA_17)); exact BK282.out) hb); have n1_ := Aside0.mk (blk_below (g := gb283) (o := .cells #[.int .u64 t287, .int .u64 t288] 24 (0, 0)) (by (with_reducible repeat (first | apply bN_17 | apply bD_17 | apply bA_17)); exact BK283.out) hb); have n2_ := Aside0.mk (blk_below (g := gb284) (o := .cells #[.int .u64 t289, .int .u64 t290] 24 (0, 0)) (by (with_reducible repeat (first | apply bN_17 | apply bD_17 | apply bA_17)); exact BK284.out) hb); have n3_ := Aside0.mk (blk_below (g := gb293) (o := .cells #[.int .u64 t291, .int .u64 t292] 24 (0, 0)) (by (with_reducible repeat (first | apply bN_17 | apply bD_17 | apply bA_17)); exact BK293.out) hb); have n4_ := Aside0.mk (below_step (by repeat (first | (with_reducible first | exact HB.out | apply lA_17 | apply lN_17 | apply lD_17 | refine lS_17 ?_ GE282.out | refine lS_17 ?_ GE283.out | refine lS_17 ?_ GE284.out | refine lS_17 ?_ GE293.out) | exact HB.out)) hb); have n5_ := Aside0.mk (hbox); have n6_ := Aside0.mk ((by rw [hg]; exact (below_size (by repeat (first | (with_reducible first | exact HB.out | apply lA_17 | apply lN_17 | apply lD_17 | refine lS_17 ?_ GE282.out | refine lS_17 ?_ GE283.out | refine lS_17 ?_ GE284.out | refine lS_17 ?_ GE293.out) | exact HB.out))) : w.heap.size ≤ gb302)); have n7_ := Aside0.mk ((by rw [hg]; exact (below_size (by repeat (first | (with_reducible first | exact HB.out | apply lA_17 | apply lN_17 | apply lD_17 | refine lS_17 ?_ GE282.out | refine lS_17 ?_ GE283.out | refine lS_17 ?_ GE284.out | refine lS_17 ?_ GE293.out) | exact HB.out))) : w.heap.size ≤ gb302)); have n8_ := Aside0.mk ((by rw [hg]; exact Nat.ne_of_lt (blk_lt (g := gb282) (o := .cells #[.int .u64 t285, .int .u64 t286] 24 (0, 0)) (by (with_reducible repeat (first | apply bN_17 | apply bD_17 | apply bA_17)); exact BK282.out)) : gb282 ≠ gb302)); have n9_ := Aside0.mk ((by rw [hg]; exact Nat.ne_of_gt (blk_lt (g := gb282) (o := .cells #[.int .u64 t285, .int .u64 t286] 24 (0, 0)) (by (with_reducible repeat (first | apply bN_17 | apply bD_17 | apply bA_17)); exact BK282.out)) : gb302 ≠ gb282)); have n10_ := Aside0.mk ((by rw [hg]; exact Nat.ne_of_lt (blk_lt (g := gb283) (o := .cells #[.int .u64 t287, .int .u64 t288] 24 (0, 0)) (by (with_reducible repeat (first | apply bN_17 | apply bD_17 | apply bA_17)); exact BK283.out)) : gb283 ≠ gb302)); have n11_ := Aside0.mk ((by rw [hg]; exact Nat.ne_of_gt (blk_lt (g := gb283) (o := .cells #[.int .u64 t287, .int .u64 t288] 24 (0, 0)) (by (with_reducible repeat (first | apply bN_17 | apply bD_17 | apply bA_17)); exact BK283.out)) : gb302 ≠ gb283)); have n12_ := Aside0.mk ((by rw [hg]; exact Nat.ne_of_lt (blk_lt (g := gb284) (o := .cells #[.int .u64 t289, .int .u64 t290] 24 (0, 0)) (by (with_reducible repeat (first | apply bN_17 | apply bD_17 | apply bA_17)); exact BK284.out)) : gb284 ≠ gb302)); have n13_ := Aside0.mk ((by rw [hg]; exact Nat.ne_of_gt (blk_lt (g := gb284) (o := .cells #[.int .u64 t289, .int .u64 t290] 24 (0, 0)) (by (with_reducible repeat (first | apply bN_17 | apply bD_17 | apply bA_17)); exact BK284.out)) : gb302 ≠ gb284)); have n14_ := Aside0.mk ((by rw [hg]; exact Nat.ne_of_lt (blk_lt (g := gb293) (o := .cells #[.int .u64 t291, .int .u64 t292] 24 (0, 0)) (by (with_reducible repeat (first | apply bN_17 | apply bD_17 | apply bA_17)); exact BK293.out)) : gb293 ≠ gb302)); have n15_ := Aside0.mk ((by rw [hg]; exact Nat.ne_of_gt (blk_lt (g := gb293) (o := .cells #[.int .u64 t291, .int .u64 t292] 24 (0, 0)) (by (with_reducible repeat (first | apply bN_17 | apply bD_17 | apply bA_17)); exact BK293.out)) : gb302 ≠ gb293)); clear BK282; clear BK283; clear BK284; clear BK293; clear HB; have BK282 := n0_; have BK283 := n1_; have BK284 := n2_; have BK293 := n3_; have HB := n4_; have BK302 := n5_; have GW302 := n6_; have GE302 := n7_; have NB282_302 := n8_; have NB302_282 := n9_; have NB283_302 := n10_; have NB302_283 := n11_; have NB284_302 := n12_; have NB302_284 := n13_; have NB293_302 := n14_; have NB302_293 := n15_; clear n0_ n1_ n2_ n3_ n4_ n5_ n6_ n7_ n8_ n9_ n10_ n11_ n12_ n13_ n14_ n15_; clear hb hbox hg; have hnb210 := NB302_282.out; have hnc210 := NB282_302.out; have hnb211 := NB302_283.out; have hnc211 := NB283_302.out; have hnb212 := NB302_284.out; have hnc212 := NB284_302.out; have hnb213 := NB302_293.out; have hnc213 := NB293_302.out; have hcz214_0 : w209.cell? ⟨gb302, 0, none⟩ = some (.int .u64 0) := (blk_cell BK302.out 0).trans rfl; have hcz214_1 : w209.cell? ⟨gb302, 1, none⟩ = some (.int .u64 0) := (blk_cell BK302.out 1).trans rfl; have hfz214_0 := blk_frozen BK302.out 0; have hfz214_1 := blk_frozen BK302.out 1; have hcz215_0 : w209.cell? ⟨gb282, 0, none⟩ = some (.int .u64 t285) := (blk_cell BK282.out 0).trans rfl; have hcz215_1 : w209.cell? ⟨gb282, 1, none⟩ = some (.int .u64 t286) := (blk_cell BK282.out 1).trans rfl; have hfz215_0 := blk_frozen BK282.out 0; have hfz215_1 := blk_frozen BK282.out 1) | ((with_reducible refine gate_callee (f := 15) rfl ?_); refine goesL_ (some 64) rfl rfl Try.func15 (by kernel_rfl) rfl #[.agg #[.int .u64 t285, .int .u64 t286], .int .u64 a3] rfl (by (try simp only [List.map_toArray, List.map_cons, List.map_nil]); first | done | rfl) ?_; (with_reducible refine (lockgatelaw03_one.calls t285 t286 a3 t303 _ A123.out).mono ?_); rintro e w216 ⟨rfl, hb⟩; refine ⟨_, rfl, ?_⟩; have n0_ := Aside0.mk (blk_below (g := gb282) (o := .cells #[.int .u64 t285, .int .u64 t286] 24 (0, 0)) (by (with_reducible repeat (first | apply bN_17 | apply bD_17 | apply bA_17)); refine blk_far ?_ NB282_302.out _; (with_reducible repeat (first | apply bN_17 | apply bD_17 | apply bA_17)); refine blk_far ?_ NB282_302.out _; (with_reducible repeat (first | apply bN_17 | apply bD_17 | apply bA_17)); exact BK282.out) hb); have n1_ := Aside0.mk (blk_below (g := gb283) (o := .cells #[.int .u64 t287, .int .u64 t288] 24 (0, 0)) (by (with_reducible repeat (first | apply bN_17 | apply bD_17 | apply bA_17)); refine blk_far ?_ NB283_302.out _; (with_reducible repeat (first | apply bN_17 | apply bD_17 | apply bA_17)); refine blk_far ?_ NB283_302.out _; (with_reducible repeat (first | apply bN_17 | apply bD_17 | apply bA_17)); exact BK283.out) hb); have n2_ := Aside0.mk (blk_below (g := gb284) (o := .cells #[.int .u64 t289, .int .u64 t290] 24 (0, 0)) (by (with_reducible repeat (first | apply bN_17 | apply bD_17 | apply bA_17)); refine blk_far ?_ NB284_302.out _; (with_reducible repeat (first | apply bN_17 | apply bD_17 | apply bA_17)); refine blk_far ?_ NB284_302.out _; (with_reducible repeat (first | apply bN_17 | apply bD_17 | apply bA_17)); exact BK284.out) hb); have n3_ := Aside0.mk (blk_below (g := gb293) (o := .cells #[.int .u64 t291, .int .u64 t292] 24 (0, 0)) (by (with_reducible repeat (first | apply bN_17 | apply bD_17 | apply bA_17)); refine blk_far ?_ NB293_302.out _; (with_reducible repeat (first | apply bN_17 | apply bD_17 | apply bA_17)); refine blk_far ?_ NB293_302.out _; (with_reducible repeat (first | apply bN_17 | apply bD_17 | apply bA_17)); exact BK293.out) hb); have n4_ := Aside0.mk (blk_below (g := gb302) (o := .cells #[.int .u64 t299, .int .u64 t300] 24 (0, 0)) (by (with_reducible repeat (first | apply bN_17 | apply bD_17 | apply bA_17)); refine blk_put (cs := #[.int .u64 t299, .int .u64 0]) ?_ 1 _ rfl; (with_reducible repeat (first | apply bN_17 | apply bD_17 | apply bA_17)); refine blk_put (cs := #[.int .u64 0, .int .u64 0]) ?_ 0 _ rfl; (with_reducible repeat (first | apply bN_17 | apply bD_17 | apply bA_17)); exact BK302.out) hb); have n5_ := Aside0.mk (below_step (by repeat (first | (with_reducible first | exact HB.out | apply lA_17 | apply lN_17 | apply lD_17 | refine lS_17 ?_ GE282.out | refine lS_17 ?_ GE283.out | refine lS_17 ?_ GE284.out | refine lS_17 ?_ GE293.out | refine lS_17 ?_ GE302.out) | exact HB.out)) hb); clear BK282; clear BK283; clear BK284; clear BK293; clear BK302; clear HB; have BK282 := n0_; have BK283 := n1_; have BK284 := n2_; have BK293 := n3_; have BK302 := n4_; have HB := n5_; clear n0_ n1_ n2_ n3_ n4_ n5_; (try clear hb); (try clear hb2); (try clear hk); (try clear hi); have hcz217_0 : w216.cell? ⟨gb302, 0, none⟩ = some (.int .u64 t299) := (blk_cell BK302.out 0).trans rfl; have hcz217_1 : w216.cell? ⟨gb302, 1, none⟩ = some (.int .u64 t300) := (blk_cell BK302.out 1).trans rfl; have hfz217_0 := blk_frozen BK302.out 0; have hfz217_1 := blk_frozen BK302.out 1; have hcz218_0 : w216.cell? ⟨gb282, 0, none⟩ = some (.int .u64 t285) := (blk_cell BK282.out 0).trans rfl; have hcz218_1 : w216.cell? ⟨gb282, 1, none⟩ = some (.int .u64 t286) := (blk_cell BK282.out 1).trans rfl; have hfz218_0 := blk_frozen BK282.out 0; have hfz218_1 := blk_frozen BK282.out 1) | (go_at_call 14; (with_reducible refine (tnum_In.calls t285 t286 a3 true _ A194.out).mono ?_); rintro e w219 ⟨rfl, hb⟩; have n0_ := Aside0.mk (blk_below (g := gb282) (o := .cells #[.int .u64 t285, .int .u64 t286] 24 (0, 0)) (by (with_reducible repeat (first | apply bN_17 | apply bD_17 | apply bA_17)); exact BK282.out) hb); have n1_ := Aside0.mk (blk_below (g := gb283) (o := .cells #[.int .u64 t287, .int .u64 t288] 24 (0, 0)) (by (with_reducible repeat (first | apply bN_17 | apply bD_17 | apply bA_17)); exact BK283.out) hb); have n2_ := Aside0.mk (blk_below (g := gb284) (o := .cells #[.int .u64 t289, .int .u64 t290] 24 (0, 0)) (by (with_reducible repeat (first | apply bN_17 | apply bD_17 | apply bA_17)); exact BK284.out) hb); have n3_ := Aside0.mk (blk_below (g := gb293) (o := .cells #[.int .u64 t291, .int .u64 t292] 24 (0, 0)) (by (with_reducible repeat (first | apply bN_17 | apply bD_17 | apply bA_17)); exact BK293.out) hb); have n4_ := Aside0.mk (blk_below (g := gb302) (o := .cells #[.int .u64 t299, .int .u64 t300] 24 (0, 0)) (by (with_reducible repeat (first | apply bN_17 | apply bD_17 | apply bA_17)); exact BK302.out) hb); have n5_ := Aside0.mk (below_step (by repeat (first | (with_reducible first | exact HB.out | apply lA_17 | apply lN_17 | apply lD_17 | refine lS_17 ?_ GE282.out | refine lS_17 ?_ GE283.out | refine lS_17 ?_ GE284.out | refine lS_17 ?_ GE293.out | refine lS_17 ?_ GE302.out) | exact HB.out)) hb); clear BK282; clear BK283; clear BK284; clear BK293; clear BK302; clear HB; have BK282 := n0_; have BK283 := n1_; have BK284 := n2_; have BK293 := n3_; have BK302 := n4_; have HB := n5_; clear n0_ n1_ n2_ n3_ n4_ n5_; (try clear hb); (try clear hb2); (try clear hk); (try clear hi); have hcz220_0 : w219.cell? ⟨gb283, 0, none⟩ = some (.int .u64 t287) := (blk_cell BK283.out 0).trans rfl; have hcz220_1 : w219.cell? ⟨gb283, 1, none⟩ = some (.int .u64 t288) := (blk_cell BK283.out 1).trans rfl; have hfz220_0 := blk_frozen BK283.out 0; have hfz220_1 := blk_frozen BK283.out 1) | (go_at_call 14; (with_reducible refine (tnum_In.calls t287 t288 a3 false _ A196.out).mono ?_); rintro e w221 ⟨rfl, hb⟩; have n0_ := Aside0.mk (blk_below (g := gb282) (o := .cells #[.int .u64 t285, .int .u64 t286] 24 (0, 0)) (by (with_reducible repeat (first | apply bN_17 | apply bD_17 | apply bA_17)); exact BK282.out) hb); have n1_ := Aside0.mk (blk_below (g := gb283) (o := .cells #[.int .u64 t287, .int .u64 t288] 24 (0, 0)) (by (with_reducible repeat (first | apply bN_17 | apply bD_17 | apply bA_17)); exact BK283.out) hb); have n2_ := Aside0.mk (blk_below (g := gb284) (o := .cells #[.int .u64 t289, .int .u64 t290] 24 (0, 0)) (by (with_reducible repeat (first | apply bN_17 | apply bD_17 | apply bA_17)); exact BK284.out) hb); have n3_ := Aside0.mk (blk_below (g := gb293) (o := .cells #[.int .u64 t291, .int .u64 t292] 24 (0, 0)) (by (with_reducible repeat (first | apply bN_17 | apply bD_17 | apply bA_17)); exact BK293.out) hb); have n4_ := Aside0.mk (blk_below (g := gb302) (o := .cells #[.int .u64 t299, .int .u64 t300] 24 (0, 0)) (by (with_reducible repeat (first | apply bN_17 | apply bD_17 | apply bA_17)); exact BK302.out) hb); have n5_ := Aside0.mk (below_step (by repeat (first | (with_reducible first | exact HB.out | apply lA_17 | apply lN_17 | apply lD_17 | refine lS_17 ?_ GE282.out | refine lS_17 ?_ GE283.out | refine lS_17 ?_ GE284.out | refine lS_17 ?_ GE293.out | refine lS_17 ?_ GE302.out) | exact HB.out)) hb); clear BK282; clear BK283; clear BK284; clear BK293; clear BK302; clear HB; have BK282 := n0_; have BK283 := n1_; have BK284 := n2_; have BK293 := n3_; have BK302 := n4_; have HB := n5_; clear n0_ n1_ n2_ n3_ n4_ n5_; (try clear hb); (try clear hb2); (try clear hk); (try clear hi); have hcz222_0 : w221.cell? ⟨gb283, 0, none⟩ = some (.int .u64 t287) := (blk_cell BK283.out 0).trans rfl; have hcz222_1 : w221.cell? ⟨gb283, 1, none⟩ = some (.int .u64 t288) := (blk_cell BK283.out 1).trans rfl; have hfz222_0 := blk_frozen BK283.out 0; have hfz222_1 := blk_frozen BK283.out 1) | (go_at_call 14; (with_reducible refine (tnum_In.calls t287 t288 t303 false _ A198.out).mono ?_); rintro e w223 ⟨rfl, hb⟩; have n0_ := Aside0.mk (blk_below (g := gb282) (o := .cells #[.int .u64 t285, .int .u64 t286] 24 (0, 0)) (by (with_reducible repeat (first | apply bN_17 | apply bD_17 | apply bA_17)); exact BK282.out) hb); have n1_ := Aside0.mk (blk_below (g := gb283) (o := .cells #[.int .u64 t287, .int .u64 t288] 24 (0, 0)) (by (with_reducible repeat (first | apply bN_17 | apply bD_17 | apply bA_17)); exact BK283.out) hb); have n2_ := Aside0.mk (blk_below (g := gb284) (o := .cells #[.int .u64 t289, .int .u64 t290] 24 (0, 0)) (by (with_reducible repeat (first | apply bN_17 | apply bD_17 | apply bA_17)); exact BK284.out) hb); have n3_ := Aside0.mk (blk_below (g := gb293) (o := .cells #[.int .u64 t291, .int .u64 t292] 24 (0, 0)) (by (with_reducible repeat (first | apply bN_17 | apply bD_17 | apply bA_17)); exact BK293.out) hb); have n4_ := Aside0.mk (blk_below (g := gb302) (o := .cells #[.int .u64 t299, .int .u64 t300] 24 (0, 0)) (by (with_reducible repeat (first | apply bN_17 | apply bD_17 | apply bA_17)); exact BK302.out) hb); have n5_ := Aside0.mk (below_step (by repeat (first | (with_reducible first | exact HB.out | apply lA_17 | apply lN_17 | apply lD_17 | refine lS_17 ?_ GE282.out | refine lS_17 ?_ GE283.out | refine lS_17 ?_ GE284.out | refine lS_17 ?_ GE293.out | refine lS_17 ?_ GE302.out) | exact HB.out)) hb); clear BK282; clear BK283; clear BK284; clear BK293; clear BK302; clear HB; have BK282 := n0_; have BK283 := n1_; have BK284 := n2_; have BK293 := n3_; have BK302 := n4_; have HB := n5_; clear n0_ n1_ n2_ n3_ n4_ n5_; (try clear hb); (try clear hb2); (try clear hk); (try clear hi)) | (go_at_call 16; (with_reducible refine (lockgatelaw03_known.calls kj8  t307 _ A200.out).mono ?_); rintro e w224 ⟨rfl, hb⟩; have n0_ := Aside0.mk (blk_below (g := gb282) (o := .cells #[.int .u64 t285, .int .u64 t286] 24 (0, 0)) (by (with_reducible repeat (first | apply bN_17 | apply bD_17 | apply bA_17)); exact BK282.out) hb); have n1_ := Aside0.mk (blk_below (g := gb283) (o := .cells #[.int .u64 t287, .int .u64 t288] 24 (0, 0)) (by (with_reducible repeat (first | apply bN_17 | apply bD_17 | apply bA_17)); exact BK283.out) hb); have n2_ := Aside0.mk (blk_below (g := gb284) (o := .cells #[.int .u64 t289, .int .u64 t290] 24 (0, 0)) (by (with_reducible repeat (first | apply bN_17 | apply bD_17 | apply bA_17)); exact BK284.out) hb); have n3_ := Aside0.mk (blk_below (g := gb293) (o := .cells #[.int .u64 t291, .int .u64 t292] 24 (0, 0)) (by (with_reducible repeat (first | apply bN_17 | apply bD_17 | apply bA_17)); exact BK293.out) hb); have n4_ := Aside0.mk (blk_below (g := gb302) (o := .cells #[.int .u64 t299, .int .u64 t300] 24 (0, 0)) (by (with_reducible repeat (first | apply bN_17 | apply bD_17 | apply bA_17)); exact BK302.out) hb); have n5_ := Aside0.mk (below_step (by repeat (first | (with_reducible first | exact HB.out | apply lA_17 | apply lN_17 | apply lD_17 | refine lS_17 ?_ GE282.out | refine lS_17 ?_ GE283.out | refine lS_17 ?_ GE284.out | refine lS_17 ?_ GE293.out | refine lS_17 ?_ GE302.out) | exact HB.out)) hb); clear BK282; clear BK283; clear BK284; clear BK293; clear BK302; clear HB; have BK282 := n0_; have BK283 := n1_; have BK284 := n2_; have BK293 := n3_; have BK302 := n4_; have HB := n5_; clear n0_ n1_ n2_ n3_ n4_ n5_; (try clear hb); (try clear hb2); (try clear hk); (try clear hi)))
                  go_ret
                  exact ⟨by first | rfl | (simp [errW_none, errW_some] <;> rfl) | (simp [*, errW_none, errW_some] <;> rfl), by repeat (first | (with_reducible first | exact HB.out | apply lA_17 | apply lN_17 | apply lD_17 | refine lS_17 ?_ GE282.out | refine lS_17 ?_ GE283.out | refine lS_17 ?_ GE284.out | refine lS_17 ?_ GE293.out | refine lS_17 ?_ GE302.out) | exact HB.out)⟩
            · replace c195 := Bool.eq_false_iff.mpr c195
              subst c195
              have H1 : ((tnum_In.f t287 t288 t303).bind fun t308 => (if t308 = true then (some false) else ((lockgatelaw03_known.f kj8).bind fun t309 => (some t309)))) = some r := by rw [if_neg (show ¬ (false = true) by decide)] at H; exact H
              clear H
              have H := H1
              clear H1
              replace H := Option.bind_eq_some_iff.mp H
              obtain ⟨t308, A2250, H⟩ := H
              replace H : (if t308 = true then (some false) else ((lockgatelaw03_known.f kj8).bind fun t309 => (some t309))) = some r := H
              have A225 := Aside0.mk A2250
              clear A2250
              by_cases c226 : t308 = true
              · subst c226
                have H1 : (some false) = some r := by rw [if_pos rfl] at H; exact H
                clear H
                have H := H1
                clear H1
                exact absurd ((Option.some.inj H).trans HRT.out) (by decide)
              · replace c226 := Bool.eq_false_iff.mpr c226
                subst c226
                have H1 : ((lockgatelaw03_known.f kj8).bind fun t309 => (some t309)) = some r := by rw [if_neg (show ¬ (false = true) by decide)] at H; exact H
                clear H
                have H := H1
                clear H1
                replace H := Option.bind_eq_some_iff.mp H
                obtain ⟨t309, A2270, H⟩ := H
                replace H : (some t309) = some r := H
                have A227 := Aside0.mk A2270
                clear A2270
                obtain rfl := Option.some.inj H
                have hnb228 := NB282_283.out
                have hnc228 := NB283_282.out
                have hnb229 := NB282_284.out
                have hnc229 := NB284_282.out
                have hnb230 := NB282_293.out
                have hnc230 := NB293_282.out
                have hcz231_0 : wc.cell? ⟨gb282, 0, none⟩ = some (.int .u64 t285) := (blk_cell BK282.out 0).trans rfl
                have hcz231_1 : wc.cell? ⟨gb282, 1, none⟩ = some (.int .u64 t286) := (blk_cell BK282.out 1).trans rfl
                have hfz231_0 := blk_frozen BK282.out 0
                have hfz231_1 := blk_frozen BK282.out 1
                have hnb232 := NB283_284.out
                have hnc232 := NB284_283.out
                have hnb233 := NB283_293.out
                have hnc233 := NB293_283.out
                have hcz234_0 : wc.cell? ⟨gb283, 0, none⟩ = some (.int .u64 t287) := (blk_cell BK283.out 0).trans rfl
                have hcz234_1 : wc.cell? ⟨gb283, 1, none⟩ = some (.int .u64 t288) := (blk_cell BK283.out 1).trans rfl
                have hfz234_0 := blk_frozen BK283.out 0
                have hfz234_1 := blk_frozen BK283.out 1
                go_wp2_with (first | ((with_reducible refine gate_callee (f := 23) rfl ?_); refine goesL_ (some 59) rfl rfl Try.func23 (by kernel_rfl) rfl #[.agg #[.int .u64 t285, .int .u64 t286], .agg #[.int .u64 t287, .int .u64 t288]] rfl (by (try simp only [List.map_toArray, List.map_cons, List.map_nil]); first | done | rfl) ?_; (with_reducible refine (tnum_Meet.calls t285 t286 t287 t288 t299 t300 false _ A122.out).mono ?_); rintro e w235 ⟨rfl, hb⟩; refine ⟨_, rfl, ?_⟩; have n0_ := Aside0.mk (blk_below (g := gb282) (o := .cells #[.int .u64 t285, .int .u64 t286] 24 (0, 0)) (by (with_reducible repeat (first | apply bN_17 | apply bD_17 | apply bA_17)); exact BK282.out) hb); have n1_ := Aside0.mk (blk_below (g := gb283) (o := .cells #[.int .u64 t287, .int .u64 t288] 24 (0, 0)) (by (with_reducible repeat (first | apply bN_17 | apply bD_17 | apply bA_17)); exact BK283.out) hb); have n2_ := Aside0.mk (blk_below (g := gb284) (o := .cells #[.int .u64 t289, .int .u64 t290] 24 (0, 0)) (by (with_reducible repeat (first | apply bN_17 | apply bD_17 | apply bA_17)); exact BK284.out) hb); have n3_ := Aside0.mk (blk_below (g := gb293) (o := .cells #[.int .u64 t291, .int .u64 t292] 24 (0, 0)) (by (with_reducible repeat (first | apply bN_17 | apply bD_17 | apply bA_17)); exact BK293.out) hb); have n4_ := Aside0.mk (below_step (by repeat (first | (with_reducible first | exact HB.out | apply lA_17 | apply lN_17 | apply lD_17 | refine lS_17 ?_ GE282.out | refine lS_17 ?_ GE283.out | refine lS_17 ?_ GE284.out | refine lS_17 ?_ GE293.out) | exact HB.out)) hb); clear BK282; clear BK283; clear BK284; clear BK293; clear HB; have BK282 := n0_; have BK283 := n1_; have BK284 := n2_; have BK293 := n3_; have HB := n4_; clear n0_ n1_ n2_ n3_ n4_; (try clear hb); (try clear hb2); (try clear hk); (try clear hi)) | ((with_reducible refine gate_dst (N := 10) rfl ?_); refine box_event ?hg (N := 10) ?hd (cs := #[.int .u64 0, .int .u64 0]) (t := 24) ?hr ?_; (case hd => rfl); (case hg => rfl); (case hr => first | (go_simp; done) | (go_simp; rfl)); intro gb302 hg w236 hbox hb; have n0_ := Aside0.mk (blk_below (g := gb282) (o := .cells #[.int .u64 t285, .int .u64 t286] 24 (0, 0)) (by (with_reducible repeat (first | apply bN_17 | apply bD_17 | apply bA_17)); exact BK282.out) hb); have n1_ := Aside0.mk (blk_below (g := gb283) (o := .cells #[.int .u64 t287, .int .u64 t288] 24 (0, 0)) (by (with_reducible repeat (first | apply bN_17 | apply bD_17 | apply bA_17)); exact BK283.out) hb); have n2_ := Aside0.mk (blk_below (g := gb284) (o := .cells #[.int .u64 t289, .int .u64 t290] 24 (0, 0)) (by (with_reducible repeat (first | apply bN_17 | apply bD_17 | apply bA_17)); exact BK284.out) hb); have n3_ := Aside0.mk (blk_below (g := gb293) (o := .cells #[.int .u64 t291, .int .u64 t292] 24 (0, 0)) (by (with_reducible repeat (first | apply bN_17 | apply bD_17 | apply bA_17)); exact BK293.out) hb); have n4_ := Aside0.mk (below_step (by repeat (first | (with_reducible first | exact HB.out | apply lA_17 | apply lN_17 | apply lD_17 | refine lS_17 ?_ GE282.out | refine lS_17 ?_ GE283.out | refine lS_17 ?_ GE284.out | refine lS_17 ?_ GE293.out) | exact HB.out)) hb); have n5_ := Aside0.mk (hbox); have n6_ := Aside0.mk ((by rw [hg]; exact (below_size (by repeat (first | (with_reducible first | exact HB.out | apply lA_17 | apply lN_17 | apply lD_17 | refine lS_17 ?_ GE282.out | refine lS_17 ?_ GE283.out | refine lS_17 ?_ GE284.out | refine lS_17 ?_ GE293.out) | exact HB.out))) : w.heap.size ≤ gb302)); have n7_ := Aside0.mk ((by rw [hg]; exact (below_size (by repeat (first | (with_reducible first | exact HB.out | apply lA_17 | apply lN_17 | apply lD_17 | refine lS_17 ?_ GE282.out | refine lS_17 ?_ GE283.out | refine lS_17 ?_ GE284.out | refine lS_17 ?_ GE293.out) | exact HB.out))) : w.heap.size ≤ gb302)); have n8_ := Aside0.mk ((by rw [hg]; exact Nat.ne_of_lt (blk_lt (g := gb282) (o := .cells #[.int .u64 t285, .int .u64 t286] 24 (0, 0)) (by (with_reducible repeat (first | apply bN_17 | apply bD_17 | apply bA_17)); exact BK282.out)) : gb282 ≠ gb302)); have n9_ := Aside0.mk ((by rw [hg]; exact Nat.ne_of_gt (blk_lt (g := gb282) (o := .cells #[.int .u64 t285, .int .u64 t286] 24 (0, 0)) (by (with_reducible repeat (first | apply bN_17 | apply bD_17 | apply bA_17)); exact BK282.out)) : gb302 ≠ gb282)); have n10_ := Aside0.mk ((by rw [hg]; exact Nat.ne_of_lt (blk_lt (g := gb283) (o := .cells #[.int .u64 t287, .int .u64 t288] 24 (0, 0)) (by (with_reducible repeat (first | apply bN_17 | apply bD_17 | apply bA_17)); exact BK283.out)) : gb283 ≠ gb302)); have n11_ := Aside0.mk ((by rw [hg]; exact Nat.ne_of_gt (blk_lt (g := gb283) (o := .cells #[.int .u64 t287, .int .u64 t288] 24 (0, 0)) (by (with_reducible repeat (first | apply bN_17 | apply bD_17 | apply bA_17)); exact BK283.out)) : gb302 ≠ gb283)); have n12_ := Aside0.mk ((by rw [hg]; exact Nat.ne_of_lt (blk_lt (g := gb284) (o := .cells #[.int .u64 t289, .int .u64 t290] 24 (0, 0)) (by (with_reducible repeat (first | apply bN_17 | apply bD_17 | apply bA_17)); exact BK284.out)) : gb284 ≠ gb302)); have n13_ := Aside0.mk ((by rw [hg]; exact Nat.ne_of_gt (blk_lt (g := gb284) (o := .cells #[.int .u64 t289, .int .u64 t290] 24 (0, 0)) (by (with_reducible repeat (first | apply bN_17 | apply bD_17 | apply bA_17)); exact BK284.out)) : gb302 ≠ gb284)); have n14_ := Aside0.mk ((by rw [hg]; exact Nat.ne_of_lt (blk_lt (g := gb293) (o := .cells #[.int .u64 t291, .int .u64 t292] 24 (0, 0)) (by (with_reducible repeat (first | apply bN_17 | apply bD_17 | apply bA_17)); exact BK293.out)) : gb293 ≠ gb302)); have n15_ := Aside0.mk ((by rw [hg]; exact Nat.ne_of_gt (blk_lt (g := gb293) (o := .cells #[.int .u64 t291, .int .u64 t292] 24 (0, 0)) (by (with_reducible repeat (first | apply bN_17 | apply bD_17 | apply bA_17)); exact BK293.out)) : gb302 ≠ gb293)); clear BK282; clear BK283; clear BK284; clear BK293; clear HB; have BK282 := n0_; have BK283 := n1_; have BK284 := n2_; have BK293 := n3_; have HB := n4_; have BK302 := n5_; have GW302 := n6_; have GE302 := n7_; have NB282_302 := n8_; have NB302_282 := n9_; have NB283_302 := n10_; have NB302_283 := n11_; have NB284_302 := n12_; have NB302_284 := n13_; have NB293_302 := n14_; have NB302_293 := n15_; clear n0_ n1_ n2_ n3_ n4_ n5_ n6_ n7_ n8_ n9_ n10_ n11_ n12_ n13_ n14_ n15_; clear hb hbox hg; have hnb237 := NB302_282.out; have hnc237 := NB282_302.out; have hnb238 := NB302_283.out; have hnc238 := NB283_302.out; have hnb239 := NB302_284.out; have hnc239 := NB284_302.out; have hnb240 := NB302_293.out; have hnc240 := NB293_302.out; have hcz241_0 : w236.cell? ⟨gb302, 0, none⟩ = some (.int .u64 0) := (blk_cell BK302.out 0).trans rfl; have hcz241_1 : w236.cell? ⟨gb302, 1, none⟩ = some (.int .u64 0) := (blk_cell BK302.out 1).trans rfl; have hfz241_0 := blk_frozen BK302.out 0; have hfz241_1 := blk_frozen BK302.out 1; have hcz242_0 : w236.cell? ⟨gb282, 0, none⟩ = some (.int .u64 t285) := (blk_cell BK282.out 0).trans rfl; have hcz242_1 : w236.cell? ⟨gb282, 1, none⟩ = some (.int .u64 t286) := (blk_cell BK282.out 1).trans rfl; have hfz242_0 := blk_frozen BK282.out 0; have hfz242_1 := blk_frozen BK282.out 1) | ((with_reducible refine gate_callee (f := 15) rfl ?_); refine goesL_ (some 64) rfl rfl Try.func15 (by kernel_rfl) rfl #[.agg #[.int .u64 t285, .int .u64 t286], .int .u64 a3] rfl (by (try simp only [List.map_toArray, List.map_cons, List.map_nil]); first | done | rfl) ?_; (with_reducible refine (lockgatelaw03_one.calls t285 t286 a3 t303 _ A123.out).mono ?_); rintro e w243 ⟨rfl, hb⟩; refine ⟨_, rfl, ?_⟩; have n0_ := Aside0.mk (blk_below (g := gb282) (o := .cells #[.int .u64 t285, .int .u64 t286] 24 (0, 0)) (by (with_reducible repeat (first | apply bN_17 | apply bD_17 | apply bA_17)); refine blk_far ?_ NB282_302.out _; (with_reducible repeat (first | apply bN_17 | apply bD_17 | apply bA_17)); refine blk_far ?_ NB282_302.out _; (with_reducible repeat (first | apply bN_17 | apply bD_17 | apply bA_17)); exact BK282.out) hb); have n1_ := Aside0.mk (blk_below (g := gb283) (o := .cells #[.int .u64 t287, .int .u64 t288] 24 (0, 0)) (by (with_reducible repeat (first | apply bN_17 | apply bD_17 | apply bA_17)); refine blk_far ?_ NB283_302.out _; (with_reducible repeat (first | apply bN_17 | apply bD_17 | apply bA_17)); refine blk_far ?_ NB283_302.out _; (with_reducible repeat (first | apply bN_17 | apply bD_17 | apply bA_17)); exact BK283.out) hb); have n2_ := Aside0.mk (blk_below (g := gb284) (o := .cells #[.int .u64 t289, .int .u64 t290] 24 (0, 0)) (by (with_reducible repeat (first | apply bN_17 | apply bD_17 | apply bA_17)); refine blk_far ?_ NB284_302.out _; (with_reducible repeat (first | apply bN_17 | apply bD_17 | apply bA_17)); refine blk_far ?_ NB284_302.out _; (with_reducible repeat (first | apply bN_17 | apply bD_17 | apply bA_17)); exact BK284.out) hb); have n3_ := Aside0.mk (blk_below (g := gb293) (o := .cells #[.int .u64 t291, .int .u64 t292] 24 (0, 0)) (by (with_reducible repeat (first | apply bN_17 | apply bD_17 | apply bA_17)); refine blk_far ?_ NB293_302.out _; (with_reducible repeat (first | apply bN_17 | apply bD_17 | apply bA_17)); refine blk_far ?_ NB293_302.out _; (with_reducible repeat (first | apply bN_17 | apply bD_17 | apply bA_17)); exact BK293.out) hb); have n4_ := Aside0.mk (blk_below (g := gb302) (o := .cells #[.int .u64 t299, .int .u64 t300] 24 (0, 0)) (by (with_reducible repeat (first | apply bN_17 | apply bD_17 | apply bA_17)); refine blk_put (cs := #[.int .u64 t299, .int .u64 0]) ?_ 1 _ rfl; (with_reducible repeat (first | apply bN_17 | apply bD_17 | apply bA_17)); refine blk_put (cs := #[.int .u64 0, .int .u64 0]) ?_ 0 _ rfl; (with_reducible repeat (first | apply bN_17 | apply bD_17 | apply bA_17)); exact BK302.out) hb); have n5_ := Aside0.mk (below_step (by repeat (first | (with_reducible first | exact HB.out | apply lA_17 | apply lN_17 | apply lD_17 | refine lS_17 ?_ GE282.out | refine lS_17 ?_ GE283.out | refine lS_17 ?_ GE284.out | refine lS_17 ?_ GE293.out | refine lS_17 ?_ GE302.out) | exact HB.out)) hb); clear BK282; clear BK283; clear BK284; clear BK293; clear BK302; clear HB; have BK282 := n0_; have BK283 := n1_; have BK284 := n2_; have BK293 := n3_; have BK302 := n4_; have HB := n5_; clear n0_ n1_ n2_ n3_ n4_ n5_; (try clear hb); (try clear hb2); (try clear hk); (try clear hi); have hcz244_0 : w243.cell? ⟨gb302, 0, none⟩ = some (.int .u64 t299) := (blk_cell BK302.out 0).trans rfl; have hcz244_1 : w243.cell? ⟨gb302, 1, none⟩ = some (.int .u64 t300) := (blk_cell BK302.out 1).trans rfl; have hfz244_0 := blk_frozen BK302.out 0; have hfz244_1 := blk_frozen BK302.out 1; have hcz245_0 : w243.cell? ⟨gb282, 0, none⟩ = some (.int .u64 t285) := (blk_cell BK282.out 0).trans rfl; have hcz245_1 : w243.cell? ⟨gb282, 1, none⟩ = some (.int .u64 t286) := (blk_cell BK282.out 1).trans rfl; have hfz245_0 := blk_frozen BK282.out 0; have hfz245_1 := blk_frozen BK282.out 1) | (go_at_call 14; (with_reducible refine (tnum_In.calls t285 t286 a3 false _ A194.out).mono ?_); rintro e w246 ⟨rfl, hb⟩; have n0_ := Aside0.mk (blk_below (g := gb282) (o := .cells #[.int .u64 t285, .int .u64 t286] 24 (0, 0)) (by (with_reducible repeat (first | apply bN_17 | apply bD_17 | apply bA_17)); exact BK282.out) hb); have n1_ := Aside0.mk (blk_below (g := gb283) (o := .cells #[.int .u64 t287, .int .u64 t288] 24 (0, 0)) (by (with_reducible repeat (first | apply bN_17 | apply bD_17 | apply bA_17)); exact BK283.out) hb); have n2_ := Aside0.mk (blk_below (g := gb284) (o := .cells #[.int .u64 t289, .int .u64 t290] 24 (0, 0)) (by (with_reducible repeat (first | apply bN_17 | apply bD_17 | apply bA_17)); exact BK284.out) hb); have n3_ := Aside0.mk (blk_below (g := gb293) (o := .cells #[.int .u64 t291, .int .u64 t292] 24 (0, 0)) (by (with_reducible repeat (first | apply bN_17 | apply bD_17 | apply bA_17)); exact BK293.out) hb); have n4_ := Aside0.mk (blk_below (g := gb302) (o := .cells #[.int .u64 t299, .int .u64 t300] 24 (0, 0)) (by (with_reducible repeat (first | apply bN_17 | apply bD_17 | apply bA_17)); exact BK302.out) hb); have n5_ := Aside0.mk (below_step (by repeat (first | (with_reducible first | exact HB.out | apply lA_17 | apply lN_17 | apply lD_17 | refine lS_17 ?_ GE282.out | refine lS_17 ?_ GE283.out | refine lS_17 ?_ GE284.out | refine lS_17 ?_ GE293.out | refine lS_17 ?_ GE302.out) | exact HB.out)) hb); clear BK282; clear BK283; clear BK284; clear BK293; clear BK302; clear HB; have BK282 := n0_; have BK283 := n1_; have BK284 := n2_; have BK293 := n3_; have BK302 := n4_; have HB := n5_; clear n0_ n1_ n2_ n3_ n4_ n5_; (try clear hb); (try clear hb2); (try clear hk); (try clear hi); have hcz247_0 : w246.cell? ⟨gb283, 0, none⟩ = some (.int .u64 t287) := (blk_cell BK283.out 0).trans rfl; have hcz247_1 : w246.cell? ⟨gb283, 1, none⟩ = some (.int .u64 t288) := (blk_cell BK283.out 1).trans rfl; have hfz247_0 := blk_frozen BK283.out 0; have hfz247_1 := blk_frozen BK283.out 1) | (go_at_call 14; (with_reducible refine (tnum_In.calls t287 t288 t303 false _ A225.out).mono ?_); rintro e w248 ⟨rfl, hb⟩; have n0_ := Aside0.mk (blk_below (g := gb282) (o := .cells #[.int .u64 t285, .int .u64 t286] 24 (0, 0)) (by (with_reducible repeat (first | apply bN_17 | apply bD_17 | apply bA_17)); exact BK282.out) hb); have n1_ := Aside0.mk (blk_below (g := gb283) (o := .cells #[.int .u64 t287, .int .u64 t288] 24 (0, 0)) (by (with_reducible repeat (first | apply bN_17 | apply bD_17 | apply bA_17)); exact BK283.out) hb); have n2_ := Aside0.mk (blk_below (g := gb284) (o := .cells #[.int .u64 t289, .int .u64 t290] 24 (0, 0)) (by (with_reducible repeat (first | apply bN_17 | apply bD_17 | apply bA_17)); exact BK284.out) hb); have n3_ := Aside0.mk (blk_below (g := gb293) (o := .cells #[.int .u64 t291, .int .u64 t292] 24 (0, 0)) (by (with_reducible repeat (first | apply bN_17 | apply bD_17 | apply bA_17)); exact BK293.out) hb); have n4_ := Aside0.mk (blk_below (g := gb302) (o := .cells #[.int .u64 t299, .int .u64 t300] 24 (0, 0)) (by (with_reducible repeat (first | apply bN_17 | apply bD_17 | apply bA_17)); exact BK302.out) hb); have n5_ := Aside0.mk (below_step (by repeat (first | (with_reducible first | exact HB.out | apply lA_17 | apply lN_17 | apply lD_17 | refine lS_17 ?_ GE282.out | refine lS_17 ?_ GE283.out | refine lS_17 ?_ GE284.out | refine lS_17 ?_ GE293.out | refine lS_17 ?_ GE302.out) | exact HB.out)) hb); clear BK282; clear BK283; clear BK284; clear BK293; clear BK302; clear HB; have BK282 := n0_; have BK283 := n1_; have BK284 := n2_; have BK293 := n3_; have BK302 := n4_; have HB := n5_; clear n0_ n1_ n2_ n3_ n4_ n5_; (try clear hb); (try clear hb2); (try clear hk); (try clear hi)) | (go_at_call 16; (with_reducible refine (lockgatelaw03_known.calls kj8  t309 _ A227.out).mono ?_); rintro e w249 ⟨rfl, hb⟩; have n0_ := Aside0.mk (blk_below (g := gb282) (o := .cells #[.int .u64 t285, .int .u64 t286] 24 (0, 0)) (by (with_reducible repeat (first | apply bN_17 | apply bD_17 | apply bA_17)); exact BK282.out) hb); have n1_ := Aside0.mk (blk_below (g := gb283) (o := .cells #[.int .u64 t287, .int .u64 t288] 24 (0, 0)) (by (with_reducible repeat (first | apply bN_17 | apply bD_17 | apply bA_17)); exact BK283.out) hb); have n2_ := Aside0.mk (blk_below (g := gb284) (o := .cells #[.int .u64 t289, .int .u64 t290] 24 (0, 0)) (by (with_reducible repeat (first | apply bN_17 | apply bD_17 | apply bA_17)); exact BK284.out) hb); have n3_ := Aside0.mk (blk_below (g := gb293) (o := .cells #[.int .u64 t291, .int .u64 t292] 24 (0, 0)) (by (with_reducible repeat (first | apply bN_17 | apply bD_17 | apply bA_17)); exact BK293.out) hb); have n4_ := Aside0.mk (blk_below (g := gb302) (o := .cells #[.int .u64 t299, .int .u64 t300] 24 (0, 0)) (by (with_reducible repeat (first | apply bN_17 | apply bD_17 | apply bA_17)); exact BK302.out) hb); have n5_ := Aside0.mk (below_step (by repeat (first | (with_reducible first | exact HB.out | apply lA_17 | apply lN_17 | apply lD_17 | refine lS_17 ?_ GE282.out | refine lS_17 ?_ GE283.out | refine lS_17 ?_ GE284.out | refine lS_17 ?_ GE293.out | refine lS_17 ?_ GE302.out) | exact HB.out)) hb); clear BK282; clear BK283; clear BK284; clear BK293; clear BK302; clear HB; have BK282 := n0_; have BK283 := n1_; have BK284 := n2_; have BK293 := n3_; have BK302 := n4_; have HB := n5_; clear n0_ n1_ n2_ n3_ n4_ n5_; (try clear hb); (try clear hb2); (try clear hk); (try clear hi)))
                go_ret
                exact ⟨by first | rfl | (simp [errW_none, errW_some] <;> rfl) | (simp [*, errW_none, errW_some] <;> rfl), by repeat (first | (with_reducible first | exact HB.out | apply lA_17 | apply lN_17 | apply lD_17 | refine lS_17 ?_ GE282.out | refine lS_17 ?_ GE283.out | refine lS_17 ?_ GE284.out | refine lS_17 ?_ GE293.out | refine lS_17 ?_ GE302.out) | exact HB.out)⟩
          · rw [if_neg c193] at H
            have c193b0 : (t299 == 0 && (t300 == 0)) = false := by simpa using c193
            (try (have c193b1 : decide (t299 = 0 && (t300 == 0)) = false := by simpa using c193))
            (try (have c193b2 : (t299 == 0 && (t300 == 0)) = false := by simpa using c193))
            (try (have c193b3 : ¬ (t299 = 0 && (t300 == 0)) := by simpa using c193))
            clear c193
            exact absurd ((Option.some.inj H).trans HRT.out) (by decide)

end Go.Proofs.Ytkmnogcahpbdjaa.PA
