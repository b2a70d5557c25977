-- PRINTED by print.py (a twelfth state) out of the translation. Not trusted: Lean checks it.
import Derived.Test.YtkmnogcahpbdjaaPA0
import Derived.Test.YtkmnogcahpbdjaaPA1
import Derived.Test.YtkmnogcahpbdjaaPA2
import Derived.Test.YtkmnogcahpbdjaaPA3
import Derived.Test.YtkmnogcahpbdjaaPA4
import Derived.Test.YtkmnogcahpbdjaaPA6
namespace Go.Proofs.Ytkmnogcahpbdjaa.PA
open Go.RowKit Go.Proofs.YtkmnogcahpbdjaaW.PrintWords Go.Proofs.YtkmnogcahpbdjaaW.PrintLast Go.Proofs.YtkmnogcahpbdjaaW.PrintMore
attribute [local go_sem] max2_int min2_int max_two min_two max_three min_three max_four min_four   -- for this text's walks alone
set_option linter.defProp false
def bN_13 := @blk_drewN
def bD_13 := @blk_drew
def bA_13 := @blk_alloc
def lA_13 := @below_alloc
def lN_13 := @pw_below_drewN
def lD_13 := @below_drew1
def lS_13 := @below_set
set_option linter.unusedVariables false
set_option linter.unusedSimpArgs false

attribute [local go_sem high] eqA24
/-! ### lockgatelaw03_May: function 12 -/
def lockgatelaw03_May.f (a0_0 : Int) (a0_1 : Int) : Option (Int × Int) := some (Go.bits .andNot .u64 a0_0 a0_1, a0_1)
set_option maxHeartbeats 8000000 in
set_option maxRecDepth 100000 in
theorem lockgatelaw03_May.calls (a0_0 : Int) (a0_1 : Int) (r1 : Int) (r2 : Int) (w : World) (h : lockgatelaw03_May.f a0_0 a0_1 = some (r1, r2)) :
    Calls Try.prog 12 #[.agg #[.int .u64 a0_0, .int .u64 a0_1]] w fun e w' => e = .returned (.agg #[.int .u64 r1, .int .u64 r2]) ∧ Below w.heap.size w w' := by
  have hu24 := Try.underlying24
  have HB := Aside0.mk (Below.refl w.heap.size w)
  have H : (some (Go.bits .andNot .u64 a0_0 a0_1, a0_1)) = some (r1, r2) := h
  clear h
  simp only [Option.some.injEq, Prod.mk.injEq] at H
  obtain ⟨rfl, rfl⟩ := H
  go_enter Try.func12, Try.ntmps12
  go_wp2_with (first | ((with_reducible refine gate_dst (N := 1) rfl ?_); refine box_event ?hg (N := 1) ?hd (cs := #[.int .u64 a0_0, .int .u64 a0_1]) (t := 24) ?hr ?_; (case hd => rfl); (case hg => rfl); (case hr => first | (go_simp; done) | (go_simp; rfl)); intro gb101 hg w2 hbox hb; have n0_ := Aside0.mk (below_step (by repeat (first | (with_reducible first | exact HB.out | apply lA_13 | apply lN_13 | apply lD_13) | exact HB.out)) hb); have n1_ := Aside0.mk (hbox); have n2_ := Aside0.mk ((by rw [hg]; exact (below_size (by repeat (first | (with_reducible first | exact HB.out | apply lA_13 | apply lN_13 | apply lD_13) | exact HB.out))) : w.heap.size ≤ gb101)); have n3_ := Aside0.mk ((by rw [hg]; exact (below_size (by repeat (first | (with_reducible first | exact HB.out | apply lA_13 | apply lN_13 | apply lD_13) | exact HB.out))) : w.heap.size ≤ gb101)); clear HB; have HB := n0_; have BK101 := n1_; have GW101 := n2_; have GE101 := n3_; clear n0_ n1_ n2_ n3_; clear hb hbox hg) | ((with_reducible refine gate_dst (N := 2) rfl ?_); refine box_event ?hg (N := 2) ?hd (cs := #[.int .u64 0, .int .u64 0]) (t := 24) ?hr ?_; (case hd => rfl); (case hg => rfl); (case hr => first | (go_simp; done) | (go_simp; rfl)); intro gb102 hg w3 hbox hb; have n0_ := Aside0.mk (blk_below (g := gb101) (o := .cells #[.int .u64 a0_0, .int .u64 a0_1] 24 (0, 0)) (by (with_reducible repeat (first | apply bN_13 | apply bD_13 | apply bA_13)); exact BK101.out) hb); have n1_ := Aside0.mk (below_step (by repeat (first | (with_reducible first | exact HB.out | apply lA_13 | apply lN_13 | apply lD_13 | refine lS_13 ?_ GE101.out) | exact HB.out)) hb); have n2_ := Aside0.mk (hbox); have n3_ := Aside0.mk ((by rw [hg]; exact (below_size (by repeat (first | (with_reducible first | exact HB.out | apply lA_13 | apply lN_13 | apply lD_13 | refine lS_13 ?_ GE101.out) | exact HB.out))) : w.heap.size ≤ gb102)); have n4_ := Aside0.mk ((by rw [hg]; exact (below_size (by repeat (first | (with_reducible first | exact HB.out | apply lA_13 | apply lN_13 | apply lD_13 | refine lS_13 ?_ GE101.out) | exact HB.out))) : w.heap.size ≤ gb102)); have n5_ := Aside0.mk ((by rw [hg]; exact Nat.ne_of_lt (blk_lt (g := gb101) (o := .cells #[.int .u64 a0_0, .int .u64 a0_1] 24 (0, 0)) (by (with_reducible repeat (first | apply bN_13 | apply bD_13 | apply bA_13)); exact BK101.out)) : gb101 ≠ gb102)); have n6_ := Aside0.mk ((by rw [hg]; exact Nat.ne_of_gt (blk_lt (g := gb101) (o := .cells #[.int .u64 a0_0, .int .u64 a0_1] 24 (0, 0)) (by (with_reducible repeat (first | apply bN_13 | apply bD_13 | apply bA_13)); exact BK101.out)) : gb102 ≠ gb101)); clear BK101; clear HB; have BK101 := n0_; have HB := n1_; have BK102 := n2_; have GW102 := n3_; have GE102 := n4_; have NB101_102 := n5_; have NB102_101 := n6_; clear n0_ n1_ n2_ n3_ n4_ n5_ n6_; clear hb hbox hg; have hnb4 := NB101_102.out; have hnc4 := NB102_101.out; have hcz5_0 : w3.cell? ⟨gb101, 0, none⟩ = some (.int .u64 a0_0) := (blk_cell BK101.out 0).trans rfl; have hcz5_1 : w3.cell? ⟨gb101, 1, none⟩ = some (.int .u64 a0_1) := (blk_cell BK101.out 1).trans rfl; have hfz5_0 := blk_frozen BK101.out 0; have hfz5_1 := blk_frozen BK101.out 1; have hcz6_0 : w3.cell? ⟨gb102, 0, none⟩ = some (.int .u64 0) := (blk_cell BK102.out 0).trans rfl; have hcz6_1 : w3.cell? ⟨gb102, 1, none⟩ = some (.int .u64 0) := (blk_cell BK102.out 1).trans rfl; have hfz6_0 := blk_frozen BK102.out 0; have hfz6_1 := blk_frozen BK102.out 1))
  refine bodyPost_ret (results_cell_row rfl _ _ gb102 24 #[.int .u64 (Go.bits .andNot .u64 a0_0 a0_1), .int .u64 a0_1] (0, 0) _ rfl (by (with_reducible repeat (first | apply bN_13 | apply bD_13 | apply bA_13)); refine blk_put (cs := #[.int .u64 (Go.bits .andNot .u64 a0_0 a0_1), .int .u64 0]) ?_ 1 _ rfl; (with_reducible repeat (first | apply bN_13 | apply bD_13 | apply bA_13)); refine blk_put (cs := #[.int .u64 0, .int .u64 0]) ?_ 0 _ rfl; (with_reducible repeat (first | apply bN_13 | apply bD_13 | apply bA_13)); exact BK102.out) Try.underlying24 rfl (by kernel_rfl)) rfl ?_
  exact ⟨by first | rfl | (simp [errW_none, errW_some] <;> rfl) | (simp [*, errW_none, errW_some] <;> rfl), by repeat (first | (with_reducible first | exact HB.out | apply lA_13 | apply lN_13 | apply lD_13 | refine lS_13 ?_ GE101.out | refine lS_13 ?_ GE102.out) | exact HB.out)⟩

/-! ### lockgatelaw03_one: function 15 -/
def lockgatelaw03_one.f (a0_0 : Int) (a0_1 : Int) (a1 : Int) : Option (Int) := some (Go.bits .or .u64 a0_0 (Go.bits .and .u64 a1 a0_1))
set_option maxHeartbeats 8000000 in
set_option maxRecDepth 100000 in
theorem lockgatelaw03_one.calls (a0_0 : Int) (a0_1 : Int) (a1 : Int) (r : Int) (w : World) (h : lockgatelaw03_one.f a0_0 a0_1 a1 = some r) :
    Calls Try.prog 15 #[.agg #[.int .u64 a0_0, .int .u64 a0_1], .int .u64 a1] w fun e w' => e = .returned (.int .u64 r) ∧ Below w.heap.size w w' := by
  have hu24 := Try.underlying24
  have HB := Aside0.mk (Below.refl w.heap.size w)
  have H : (some (Go.bits .or .u64 a0_0 (Go.bits .and .u64 a1 a0_1))) = some r := h
  clear h
  obtain rfl := Option.some.inj H
  go_enter Try.func15, Try.ntmps15
  go_wp2_with (first | ((with_reducible refine gate_dst (N := 2) rfl ?_); refine box_event ?hg (N := 2) ?hd (cs := #[.int .u64 a0_0, .int .u64 a0_1]) (t := 24) ?hr ?_; (case hd => rfl); (case hg => rfl); (case hr => first | (go_simp; done) | (go_simp; rfl)); intro gb107 hg w3 hbox hb; have n0_ := Aside0.mk (below_step (by repeat (first | (with_reducible first | exact HB.out | apply lA_13 | apply lN_13 | apply lD_13) | exact HB.out)) hb); have n1_ := Aside0.mk (hbox); have n2_ := Aside0.mk ((by rw [hg]; exact (below_size (by repeat (first | (with_reducible first | exact HB.out | apply lA_13 | apply lN_13 | apply lD_13) | exact HB.out))) : w.heap.size ≤ gb107)); have n3_ := Aside0.mk ((by rw [hg]; exact (below_size (by repeat (first | (with_reducible first | exact HB.out | apply lA_13 | apply lN_13 | apply lD_13) | exact HB.out))) : w.heap.size ≤ gb107)); clear HB; have HB := n0_; have BK107 := n1_; have GW107 := n2_; have GE107 := n3_; clear n0_ n1_ n2_ n3_; clear hb hbox hg; have hcz4_0 : w3.cell? ⟨gb107, 0, none⟩ = some (.int .u64 a0_0) := (blk_cell BK107.out 0).trans rfl; have hcz4_1 : w3.cell? ⟨gb107, 1, none⟩ = some (.int .u64 a0_1) := (blk_cell BK107.out 1).trans rfl; have hfz4_0 := blk_frozen BK107.out 0; have hfz4_1 := blk_frozen BK107.out 1))
  go_ret
  exact ⟨by first | rfl | (simp [errW_none, errW_some] <;> rfl) | (simp [*, errW_none, errW_some] <;> rfl), by repeat (first | (with_reducible first | exact HB.out | apply lA_13 | apply lN_13 | apply lD_13 | refine lS_13 ?_ GE107.out) | exact HB.out)⟩

/-! ### lockgatelaw03_known: function 16 -/
def lockgatelaw03_known.f (k : Nat)  : Option (Bool) := (tnum_Add.f 4 2 0 1).bind fun bt147 => (if (bt147.1 == 4 && (bt147.2 == 3)) = true then ((tnum_Of.f 6).bind fun bt149 => ((tnum_Of.f 7).bind fun bt151 => ((tnum_Mul.f k bt149.1 bt149.2 bt151.1 bt151.2).bind fun bt153 => ((tnum_Of.f 42).bind fun bt155 => (if (bt153.1 == bt155.1 && (bt153.2 == bt155.2)) = true then ((tnum_Any.f).bind fun bt157 => ((tnum_In.f bt157.1 bt157.2 9).bind fun t159 => (if t159 = true then ((tnum_Of.f 8).bind fun bt160 => ((tnum_In.f bt160.1 bt160.2 9).bind fun t162 => (some (!t162)))) else (some false)))) else (some false)))))) else (some false))
theorem lockgatelaw03_known.mono : ∀ k, LeO (lockgatelaw03_known.f k ) (lockgatelaw03_known.f (k + 1) ) := by
  intro  k
  unfold lockgatelaw03_known.f
  repeat' first
      | (with_reducible exact tnum_Mul.mono _ _ _ _ _)
      | (with_reducible exact LeO.refl _)
      | (with_reducible exact LeO.none _)
      | (with_reducible refine LeO.ite ?_ ?_)
      | (with_reducible refine LeO.bind ?_ (fun _ => ?_))
      | exact tnum_Mul.mono _ _ _ _ _
      | exact LeO.none _
      | refine LeO.ite ?_ ?_
      | refine LeO.bind ?_ (fun _ => ?_)
set_option maxHeartbeats 8000000 in
set_option maxRecDepth 100000 in
theorem lockgatelaw03_known.calls (k : Nat)  (r : Bool) (w : World) (h : lockgatelaw03_known.f k  = some r) :
    Calls Try.prog 16 #[] w fun e w' => e = .returned (.bool r) ∧ Below w.heap.size w w' := by
  have hu24 := Try.underlying24
  have HB := Aside0.mk (Below.refl w.heap.size w)
  have H : ((tnum_Add.f 4 2 0 1).bind fun bt147 => (if (bt147.1 == 4 && (bt147.2 == 3)) = true then ((tnum_Of.f 6).bind fun bt149 => ((tnum_Of.f 7).bind fun bt151 => ((tnum_Mul.f k bt149.1 bt149.2 bt151.1 bt151.2).bind fun bt153 => ((tnum_Of.f 42).bind fun bt155 => (if (bt153.1 == bt155.1 && (bt153.2 == bt155.2)) = true then ((tnum_Any.f).bind fun bt157 => ((tnum_In.f bt157.1 bt157.2 9).bind fun t159 => (if t159 = true then ((tnum_Of.f 8).bind fun bt160 => ((tnum_In.f bt160.1 bt160.2 9).bind fun t162 => (some (!t162)))) else (some false)))) else (some false)))))) else (some false))) = some r := h
  clear h
  replace H := Option.bind_eq_some_iff.mp H
  obtain ⟨⟨t147, t148⟩, A10, H⟩ := H
  replace H : (if (t147 == 4 && (t148 == 3)) = true then ((tnum_Of.f 6).bind fun bt149 => ((tnum_Of.f 7).bind fun bt151 => ((tnum_Mul.f k bt149.1 bt149.2 bt151.1 bt151.2).bind fun bt153 => ((tnum_Of.f 42).bind fun bt155 => (if (bt153.1 == bt155.1 && (bt153.2 == bt155.2)) = true then ((tnum_Any.f).bind fun bt157 => ((tnum_In.f bt157.1 bt157.2 9).bind fun t159 => (if t159 = true then ((tnum_Of.f 8).bind fun bt160 => ((tnum_In.f bt160.1 bt160.2 9).bind fun t162 => (some (!t162)))) else (some false)))) else (some false)))))) else (some false)) = some r := H
  have A1 := Aside0.mk A10
  clear A10
  by_cases c2 : (t147 == 4 && (t148 == 3)) = true
  · rw [if_pos c2] at H
    have c2b0 : (t147 == 4 && (t148 == 3)) = true := c2
    (try (have c2b1 : decide (t147 = 4 && (t148 == 3)) = true := by simpa using c2))
    (try (have c2b2 : (t147 == 4 && (t148 == 3)) = true := by simpa using c2))
    clear c2
    replace H := Option.bind_eq_some_iff.mp H
    obtain ⟨⟨t149, t150⟩, A30, H⟩ := H
    replace H : ((tnum_Of.f 7).bind fun bt151 => ((tnum_Mul.f k t149 t150 bt151.1 bt151.2).bind fun bt153 => ((tnum_Of.f 42).bind fun bt155 => (if (bt153.1 == bt155.1 && (bt153.2 == bt155.2)) = true then ((tnum_Any.f).bind fun bt157 => ((tnum_In.f bt157.1 bt157.2 9).bind fun t159 => (if t159 = true then ((tnum_Of.f 8).bind fun bt160 => ((tnum_In.f bt160.1 bt160.2 9).bind fun t162 => (some (!t162)))) else (some false)))) else (some false))))) = some r := H
    have A3 := Aside0.mk A30
    clear A30
    replace H := Option.bind_eq_some_iff.mp H
    obtain ⟨⟨t151, t152⟩, A40, H⟩ := H
    replace H : ((tnum_Mul.f k t149 t150 t151 t152).bind fun bt153 => ((tnum_Of.f 42).bind fun bt155 => (if (bt153.1 == bt155.1 && (bt153.2 == bt155.2)) = true then ((tnum_Any.f).bind fun bt157 => ((tnum_In.f bt157.1 bt157.2 9).bind fun t159 => (if t159 = true then ((tnum_Of.f 8).bind fun bt160 => ((tnum_In.f bt160.1 bt160.2 9).bind fun t162 => (some (!t162)))) else (some false)))) else (some false)))) = some r := H
    have A4 := Aside0.mk A40
    clear A40
    replace H := Option.bind_eq_some_iff.mp H
    obtain ⟨⟨t153, t154⟩, A50, H⟩ := H
    replace H : ((tnum_Of.f 42).bind fun bt155 => (if (t153 == bt155.1 && (t154 == bt155.2)) = true then ((tnum_Any.f).bind fun bt157 => ((tnum_In.f bt157.1 bt157.2 9).bind fun t159 => (if t159 = true then ((tnum_Of.f 8).bind fun bt160 => ((tnum_In.f bt160.1 bt160.2 9).bind fun t162 => (some (!t162)))) else (some false)))) else (some false))) = some r := H
    have A5 := Aside0.mk A50
    clear A50
    replace H := Option.bind_eq_some_iff.mp H
    obtain ⟨⟨t155, t156⟩, A60, H⟩ := H
    replace H : (if (t153 == t155 && (t154 == t156)) = true then ((tnum_Any.f).bind fun bt157 => ((tnum_In.f bt157.1 bt157.2 9).bind fun t159 => (if t159 = true then ((tnum_Of.f 8).bind fun bt160 => ((tnum_In.f bt160.1 bt160.2 9).bind fun t162 => (some (!t162)))) else (some false)))) else (some false)) = some r := H
    have A6 := Aside0.mk A60
    clear A60
    by_cases c7 : (t153 == t155 && (t154 == t156)) = true
    · rw [if_pos c7] at H
      have c7b0 : (t153 == t155 && (t154 == t156)) = true := c7
      (try (have c7b1 : decide (t153 = t155 && (t154 == t156)) = true := by simpa using c7))
      (try (have c7b2 : (t153 == t155 && (t154 == t156)) = true := by simpa using c7))
      clear c7
      replace H := Option.bind_eq_some_iff.mp H
      obtain ⟨⟨t157, t158⟩, A80, H⟩ := H
      replace H : ((tnum_In.f t157 t158 9).bind fun t159 => (if t159 = true then ((tnum_Of.f 8).bind fun bt160 => ((tnum_In.f bt160.1 bt160.2 9).bind fun t162 => (some (!t162)))) else (some false))) = some r := H
      have A8 := Aside0.mk A80
      clear A80
      replace H := Option.bind_eq_some_iff.mp H
      obtain ⟨t159, A90, H⟩ := H
      replace H : (if t159 = true then ((tnum_Of.f 8).bind fun bt160 => ((tnum_In.f bt160.1 bt160.2 9).bind fun t162 => (some (!t162)))) else (some false)) = some r := H
      have A9 := Aside0.mk A90
      clear A90
      by_cases c10 : t159 = true
      · subst c10
        have H1 : ((tnum_Of.f 8).bind fun bt160 => ((tnum_In.f bt160.1 bt160.2 9).bind fun t162 => (some (!t162)))) = some r := by rw [if_pos rfl] at H; exact H
        clear H
        have H := H1
        clear H1
        replace H := Option.bind_eq_some_iff.mp H
        obtain ⟨⟨t160, t161⟩, A110, H⟩ := H
        replace H : ((tnum_In.f t160 t161 9).bind fun t162 => (some (!t162))) = some r := H
        have A11 := Aside0.mk A110
        clear A110
        replace H := Option.bind_eq_some_iff.mp H
        obtain ⟨t162, A120, H⟩ := H
        replace H : (some (!t162)) = some r := H
        have A12 := Aside0.mk A120
        clear A120
        obtain rfl := Option.some.inj H
        go_enter Try.func16, Try.ntmps16
        go_wp2_with (first | ((with_reducible refine gate_callee (f := 17) rfl ?_); refine goesL_ (some 3) rfl rfl Try.func17 (by kernel_rfl) rfl #[.agg #[.int .u64 4, .int .u64 2], .agg #[.int .u64 0, .int .u64 1]] rfl (by (try simp only [List.map_toArray, List.map_cons, List.map_nil]); first | done | rfl) ?_; (with_reducible refine (tnum_Add.calls 4 2 0 1 t147 t148 _ A1.out).mono ?_); rintro e w13 ⟨rfl, hb⟩; refine ⟨_, rfl, ?_⟩; have n0_ := Aside0.mk (below_step (by repeat (first | (with_reducible first | exact HB.out | apply lA_13 | apply lN_13 | apply lD_13) | exact HB.out)) hb); clear HB; have HB := n0_; clear n0_; (try clear hb); (try clear hb2); (try clear hk); (try clear hi)) | (go_at_call 25; (with_reducible refine (tnum_Of.calls 6 t149 t150 _ A3.out).mono ?_); rintro e w14 ⟨rfl, hb⟩; have n0_ := Aside0.mk (below_step (by repeat (first | (with_reducible first | exact HB.out | apply lA_13 | apply lN_13 | apply lD_13) | exact HB.out)) hb); clear HB; have HB := n0_; clear n0_; (try clear hb); (try clear hb2); (try clear hk); (try clear hi)) | (go_at_call 25; (with_reducible refine (tnum_Of.calls 7 t151 t152 _ A4.out).mono ?_); rintro e w15 ⟨rfl, hb⟩; have n0_ := Aside0.mk (below_step (by repeat (first | (with_reducible first | exact HB.out | apply lA_13 | apply lN_13 | apply lD_13) | exact HB.out)) hb); clear HB; have HB := n0_; clear n0_; (try clear hb); (try clear hb2); (try clear hk); (try clear hi)) | (go_at_call 21; (with_reducible refine (tnum_Mul.calls k t149 t150 t151 t152 t153 t154 _ A5.out).mono ?_); rintro e w16 ⟨rfl, hb⟩; have n0_ := Aside0.mk (below_step (by repeat (first | (with_reducible first | exact HB.out | apply lA_13 | apply lN_13 | apply lD_13) | exact HB.out)) hb); clear HB; have HB := n0_; clear n0_; (try clear hb); (try clear hb2); (try clear hk); (try clear hi)) | (go_at_call 25; (with_reducible refine (tnum_Of.calls 42 t155 t156 _ A6.out).mono ?_); rintro e w17 ⟨rfl, hb⟩; have n0_ := Aside0.mk (below_step (by repeat (first | (with_reducible first | exact HB.out | apply lA_13 | apply lN_13 | apply lD_13) | exact HB.out)) hb); clear HB; have HB := n0_; clear n0_; (try clear hb); (try clear hb2); (try clear hk); (try clear hi)) | (go_at_call 27; (with_reducible refine (tnum_Any.calls  t157 t158 _ A8.out).mono ?_); rintro e w18 ⟨rfl, hb⟩; have n0_ := Aside0.mk (below_step (by repeat (first | (with_reducible first | exact HB.out | apply lA_13 | apply lN_13 | apply lD_13) | exact HB.out)) hb); clear HB; have HB := n0_; clear n0_; (try clear hb); (try clear hb2); (try clear hk); (try clear hi)) | (go_at_call 14; (with_reducible refine (tnum_In.calls t157 t158 9 true _ A9.out).mono ?_); rintro e w19 ⟨rfl, hb⟩; have n0_ := Aside0.mk (below_step (by repeat (first | (with_reducible first | exact HB.out | apply lA_13 | apply lN_13 | apply lD_13) | exact HB.out)) hb); clear HB; have HB := n0_; clear n0_; (try clear hb); (try clear hb2); (try clear hk); (try clear hi)) | (go_at_call 25; (with_reducible refine (tnum_Of.calls 8 t160 t161 _ A11.out).mono ?_); rintro e w20 ⟨rfl, hb⟩; have n0_ := Aside0.mk (below_step (by repeat (first | (with_reducible first | exact HB.out | apply lA_13 | apply lN_13 | apply lD_13) | exact HB.out)) hb); clear HB; have HB := n0_; clear n0_; (try clear hb); (try clear hb2); (try clear hk); (try clear hi)) | (go_at_call 14; (with_reducible refine (tnum_In.calls t160 t161 9 t162 _ A12.out).mono ?_); rintro e w21 ⟨rfl, hb⟩; have n0_ := Aside0.mk (below_step (by repeat (first | (with_reducible first | exact HB.out | apply lA_13 | apply lN_13 | apply lD_13) | exact HB.out)) hb); clear HB; have HB := n0_; clear n0_; (try clear hb); (try clear hb2); (try clear hk); (try clear hi)))
        go_ret
        exact ⟨by first | rfl | (simp [errW_none, errW_some] <;> rfl) | (simp [*, errW_none, errW_some] <;> rfl), by repeat (first | (with_reducible first | exact HB.out | apply lA_13 | apply lN_13 | apply lD_13) | exact HB.out)⟩
      · replace c10 := Bool.eq_false_iff.mpr c10
        subst c10
        have H1 : (some false) = some r := by rw [if_neg (show ¬ (false = true) by decide)] at H; exact H
        clear H
        have H := H1
        clear H1
        obtain rfl := Option.some.inj H
        go_enter Try.func16, Try.ntmps16
        go_wp2_with (first | ((with_reducible refine gate_callee (f := 17) rfl ?_); refine goesL_ (some 3) rfl rfl Try.func17 (by kernel_rfl) rfl #[.agg #[.int .u64 4, .int .u64 2], .agg #[.int .u64 0, .int .u64 1]] rfl (by (try simp only [List.map_toArray, List.map_cons, List.map_nil]); first | done | rfl) ?_; (with_reducible refine (tnum_Add.calls 4 2 0 1 t147 t148 _ A1.out).mono ?_); rintro e w22 ⟨rfl, hb⟩; refine ⟨_, rfl, ?_⟩; have n0_ := Aside0.mk (below_step (by repeat (first | (with_reducible first | exact HB.out | apply lA_13 | apply lN_13 | apply lD_13) | exact HB.out)) hb); clear HB; have HB := n0_; clear n0_; (try clear hb); (try clear hb2); (try clear hk); (try clear hi)) | (go_at_call 25; (with_reducible refine (tnum_Of.calls 6 t149 t150 _ A3.out).mono ?_); rintro e w23 ⟨rfl, hb⟩; have n0_ := Aside0.mk (below_step (by repeat (first | (with_reducible first | exact HB.out | apply lA_13 | apply lN_13 | apply lD_13) | exact HB.out)) hb); clear HB; have HB := n0_; clear n0_; (try clear hb); (try clear hb2); (try clear hk); (try clear hi)) | (go_at_call 25; (with_reducible refine (tnum_Of.calls 7 t151 t152 _ A4.out).mono ?_); rintro e w24 ⟨rfl, hb⟩; have n0_ := Aside0.mk (below_step (by repeat (first | (with_reducible first | exact HB.out | apply lA_13 | apply lN_13 | apply lD_13) | exact HB.out)) hb); clear HB; have HB := n0_; clear n0_; (try clear hb); (try clear hb2); (try clear hk); (try clear hi)) | (go_at_call 21; (with_reducible refine (tnum_Mul.calls k t149 t150 t151 t152 t153 t154 _ A5.out).mono ?_); rintro e w25 ⟨rfl, hb⟩; have n0_ := Aside0.mk (below_step (by repeat (first | (with_reducible first | exact HB.out | apply lA_13 | apply lN_13 | apply lD_13) | exact HB.out)) hb); clear HB; have HB := n0_; clear n0_; (try clear hb); (try clear hb2); (try clear hk); (try clear hi)) | (go_at_call 25; (with_reducible refine (tnum_Of.calls 42 t155 t156 _ A6.out).mono ?_); rintro e w26 ⟨rfl, hb⟩; have n0_ := Aside0.mk (below_step (by repeat (first | (with_reducible first | exact HB.out | apply lA_13 | apply lN_13 | apply lD_13) | exact HB.out)) hb); clear HB; have HB := n0_; clear n0_; (try clear hb); (try clear hb2); (try clear hk); (try clear hi)) | (go_at_call 27; (with_reducible refine (tnum_Any.calls  t157 t158 _ A8.out).mono ?_); rintro e w27 ⟨rfl, hb⟩; have n0_ := Aside0.mk (below_step (by repeat (first | (with_reducible first | exact HB.out | apply lA_13 | apply lN_13 | apply lD_13) | exact HB.out)) hb); clear HB; have HB := n0_; clear n0_; (try clear hb); (try clear hb2); (try clear hk); (try clear hi)) | (go_at_call 14; (with_reducible refine (tnum_In.calls t157 t158 9 false _ A9.out).mono ?_); rintro e w28 ⟨rfl, hb⟩; have n0_ := Aside0.mk (below_step (by repeat (first | (with_reducible first | exact HB.out | apply lA_13 | apply lN_13 | apply lD_13) | exact HB.out)) hb); clear HB; have HB := n0_; clear n0_; (try clear hb); (try clear hb2); (try clear hk); (try clear hi)))
        go_ret
        exact ⟨by first | rfl | (simp [errW_none, errW_some] <;> rfl) | (simp [*, errW_none, errW_some] <;> rfl), by repeat (first | (with_reducible first | exact HB.out | apply lA_13 | apply lN_13 | apply lD_13) | exact HB.out)⟩
    · rw [if_neg c7] at H
      have c7b0 : (t153 == t155 && (t154 == t156)) = false := by simpa using c7
      (try (have c7b1 : decide (t153 = t155 && (t154 == t156)) = false := by simpa using c7))
      (try (have c7b2 : (t153 == t155 && (t154 == t156)) = false := by simpa using c7))
      (try (have c7b3 : ¬ (t153 = t155 && (t154 == t156)) := by simpa using c7))
      clear c7
      obtain rfl := Option.some.inj H
      go_enter Try.func16, Try.ntmps16
      go_wp2_with (first | ((with_reducible refine gate_callee (f := 17) rfl ?_); refine goesL_ (some 3) rfl rfl Try.func17 (by kernel_rfl) rfl #[.agg #[.int .u64 4, .int .u64 2], .agg #[.int .u64 0, .int .u64 1]] rfl (by (try simp only [List.map_toArray, List.map_cons, List.map_nil]); first | done | rfl) ?_; (with_reducible refine (tnum_Add.calls 4 2 0 1 t147 t148 _ A1.out).mono ?_); rintro e w29 ⟨rfl, hb⟩; refine ⟨_, rfl, ?_⟩; have n0_ := Aside0.mk (below_step (by repeat (first | (with_reducible first | exact HB.out | apply lA_13 | apply lN_13 | apply lD_13) | exact HB.out)) hb); clear HB; have HB := n0_; clear n0_; (try clear hb); (try clear hb2); (try clear hk); (try clear hi)) | (go_at_call 25; (with_reducible refine (tnum_Of.calls 6 t149 t150 _ A3.out).mono ?_); rintro e w30 ⟨rfl, hb⟩; have n0_ := Aside0.mk (below_step (by repeat (first | (with_reducible first | exact HB.out | apply lA_13 | apply lN_13 | apply lD_13) | exact HB.out)) hb); clear HB; have HB := n0_; clear n0_; (try clear hb); (try clear hb2); (try clear hk); (try clear hi)) | (go_at_call 25; (with_reducible refine (tnum_Of.calls 7 t151 t152 _ A4.out).mono ?_); rintro e w31 ⟨rfl, hb⟩; have n0_ := Aside0.mk (below_step (by repeat (first | (with_reducible first | exact HB.out | apply lA_13 | apply lN_13 | apply lD_13) | exact HB.out)) hb); clear HB; have HB := n0_; clear n0_; (try clear hb); (try clear hb2); (try clear hk); (try clear hi)) | (go_at_call 21; (with_reducible refine (tnum_Mul.calls k t149 t150 t151 t152 t153 t154 _ A5.out).mono ?_); rintro e w32 ⟨rfl, hb⟩; have n0_ := Aside0.mk (below_step (by repeat (first | (with_reducible first | exact HB.out | apply lA_13 | apply lN_13 | apply lD_13) | exact HB.out)) hb); clear HB; have HB := n0_; clear n0_; (try clear hb); (try clear hb2); (try clear hk); (try clear hi)) | (go_at_call 25; (with_reducible refine (tnum_Of.calls 42 t155 t156 _ A6.out).mono ?_); rintro e w33 ⟨rfl, hb⟩; have n0_ := Aside0.mk (below_step (by repeat (first | (with_reducible first | exact HB.out | apply lA_13 | apply lN_13 | apply lD_13) | exact HB.out)) hb); clear HB; have HB := n0_; clear n0_; (try clear hb); (try clear hb2); (try clear hk); (try clear hi)))
      go_ret
      exact ⟨by first | rfl | (simp [errW_none, errW_some] <;> rfl) | (simp [*, errW_none, errW_some] <;> rfl), by repeat (first | (with_reducible first | exact HB.out | apply lA_13 | apply lN_13 | apply lD_13) | exact HB.out)⟩
  · rw [if_neg c2] at H
    have c2b0 : (t147 == 4 && (t148 == 3)) = false := by simpa using c2
    (try (have c2b1 : decide (t147 = 4 && (t148 == 3)) = false := by simpa using c2))
    (try (have c2b2 : (t147 == 4 && (t148 == 3)) = false := by simpa using c2))
    (try (have c2b3 : ¬ (t147 = 4 && (t148 == 3)) := by simpa using c2))
    clear c2
    obtain rfl := Option.some.inj H
    go_enter Try.func16, Try.ntmps16
    go_wp2_with (first | ((with_reducible refine gate_callee (f := 17) rfl ?_); refine goesL_ (some 3) rfl rfl Try.func17 (by kernel_rfl) rfl #[.agg #[.int .u64 4, .int .u64 2], .agg #[.int .u64 0, .int .u64 1]] rfl (by (try simp only [List.map_toArray, List.map_cons, List.map_nil]); first | done | rfl) ?_; (with_reducible refine (tnum_Add.calls 4 2 0 1 t147 t148 _ A1.out).mono ?_); rintro e w34 ⟨rfl, hb⟩; refine ⟨_, rfl, ?_⟩; have n0_ := Aside0.mk (below_step (by repeat (first | (with_reducible first | exact HB.out | apply lA_13 | apply lN_13 | apply lD_13) | exact HB.out)) hb); clear HB; have HB := n0_; clear n0_; (try clear hb); (try clear hb2); (try clear hk); (try clear hi)))
    go_ret
    exact ⟨by first | rfl | (simp [errW_none, errW_some] <;> rfl) | (simp [*, errW_none, errW_some] <;> rfl), by repeat (first | (with_reducible first | exact HB.out | apply lA_13 | apply lN_13 | apply lD_13) | exact HB.out)⟩

/-! ### lockgatelaw03_alu: function 48 -/
def lockgatelaw03_alu.f (k : Nat) (a0 : Int) (a1 : Int) (a2 : Int) : Option (Int) := (word_Alu.f k a0 true a1 a2).bind fun bt461 => (some bt461.1)
theorem lockgatelaw03_alu.mono : ∀ a0 a1 a2 k, LeO (lockgatelaw03_alu.f k a0 a1 a2) (lockgatelaw03_alu.f (k + 1) a0 a1 a2) := by
  intro a0 a1 a2 k
  unfold lockgatelaw03_alu.f
  repeat' first
      | (with_reducible exact word_Alu.mono _ _ _ _ _)
      | (with_reducible exact LeO.refl _)
      | (with_reducible exact LeO.none _)
      | (with_reducible refine LeO.ite ?_ ?_)
      | (with_reducible refine LeO.bind ?_ (fun _ => ?_))
      | exact word_Alu.mono _ _ _ _ _
      | exact LeO.none _
      | refine LeO.ite ?_ ?_
      | refine LeO.bind ?_ (fun _ => ?_)
set_option maxHeartbeats 8000000 in
set_option maxRecDepth 100000 in
theorem lockgatelaw03_alu.calls (k : Nat) (a0 : Int) (a1 : Int) (a2 : Int) (r : Int) (w : World) (h : lockgatelaw03_alu.f k a0 a1 a2 = some r) :
    Calls Try.prog 48 #[.int .i64 a0, .int .u64 a1, .int .u64 a2] w fun e w' => e = .returned (.int .u64 r) ∧ Drawn0 w w' := by
  have H : ((word_Alu.f k a0 true a1 a2).bind fun bt461 => (some bt461.1)) = some r := h
  clear h
  replace H := Option.bind_eq_some_iff.mp H
  obtain ⟨⟨t461, t462⟩, A40, H⟩ := H
  replace H : (some t461) = some r := H
  have A4 := Aside0.mk A40
  clear A40
  obtain rfl := Option.some.inj H
  go_enter Try.func48, Try.ntmps48
  go_wp2_with (first | ((with_reducible refine gate_callee (f := 47) rfl ?_); refine goesL_ (some 13) rfl rfl Try.func47 (by kernel_rfl) rfl #[.int .i64 a0, .bool true, .int .u64 a1, .int .u64 a2] rfl (by (try simp only [List.map_toArray, List.map_cons, List.map_nil]); first | done | rfl) ?_; (with_reducible refine (word_Alu.calls k a0 true a1 a2 t461 t462 _ A4.out).mono ?_); rintro e w' ⟨rfl, ⟨nd, rfl⟩⟩; refine ⟨_, rfl, ?_⟩))
  go_ret
  exact ⟨by first | rfl | (simp; done) | (simp [*]; done), by repeat (first | exact Drawn0.refl _ | apply Drawn0.step)⟩

/-! ### lockgatelaw03_has: function 49 -/
def lockgatelaw03_has.f (a0_0 : Int) (a0_1 : Int) (a1 : Int) : Option (Bool) := if (Go.bits .and .u64 a0_0 a0_1) = 0 then ((tnum_In.f a0_0 a0_1 a1).bind fun t522 => (some t522)) else (some false)
set_option maxHeartbeats 8000000 in
set_option maxRecDepth 100000 in
theorem lockgatelaw03_has.calls (a0_0 : Int) (a0_1 : Int) (a1 : Int) (r : Bool) (w : World) (h : lockgatelaw03_has.f a0_0 a0_1 a1 = some r) :
    Calls Try.prog 49 #[.agg #[.int .u64 a0_0, .int .u64 a0_1], .int .u64 a1] w fun e w' => e = .returned (.bool r) ∧ Below w.heap.size w w' := by
  have hu24 := Try.underlying24
  have HB := Aside0.mk (Below.refl w.heap.size w)
  have H : (if (Go.bits .and .u64 a0_0 a0_1) = 0 then ((tnum_In.f a0_0 a0_1 a1).bind fun t522 => (some t522)) else (some false)) = some r := h
  clear h
  by_cases c3 : (Go.bits .and .u64 a0_0 a0_1) = 0
  · rw [if_pos c3] at H
    have c3b0 : ((Go.bits .and .u64 a0_0 a0_1) == 0) = true := beq_iff_eq.mpr c3
    have c3b1 : ((Go.bits .and .u64 a0_0 a0_1) != 0) = false := bne_eq_false_iff_eq.mpr c3
    clear c3
    replace H := Option.bind_eq_some_iff.mp H
    obtain ⟨t522, A40, H⟩ := H
    replace H : (some t522) = some r := H
    have A4 := Aside0.mk A40
    clear A40
    obtain rfl := Option.some.inj H
    go_enter Try.func49, Try.ntmps49
    go_wp2_with (first | ((with_reducible refine gate_dst (N := 2) rfl ?_); refine box_event ?hg (N := 2) ?hd (cs := #[.int .u64 a0_0, .int .u64 a0_1]) (t := 24) ?hr ?_; (case hd => rfl); (case hg => rfl); (case hr => first | (go_simp; done) | (go_simp; rfl)); intro gb521 hg w5 hbox hb; have n0_ := Aside0.mk (below_step (by repeat (first | (with_reducible first | exact HB.out | apply lA_13 | apply lN_13 | apply lD_13) | exact HB.out)) hb); have n1_ := Aside0.mk (hbox); have n2_ := Aside0.mk ((by rw [hg]; exact (below_size (by repeat (first | (with_reducible first | exact HB.out | apply lA_13 | apply lN_13 | apply lD_13) | exact HB.out))) : w.heap.size ≤ gb521)); have n3_ := Aside0.mk ((by rw [hg]; exact (below_size (by repeat (first | (with_reducible first | exact HB.out | apply lA_13 | apply lN_13 | apply lD_13) | exact HB.out))) : w.heap.size ≤ gb521)); clear HB; have HB := n0_; have BK521 := n1_; have GW521 := n2_; have GE521 := n3_; clear n0_ n1_ n2_ n3_; clear hb hbox hg; have hcz6_0 : w5.cell? ⟨gb521, 0, none⟩ = some (.int .u64 a0_0) := (blk_cell BK521.out 0).trans rfl; have hcz6_1 : w5.cell? ⟨gb521, 1, none⟩ = some (.int .u64 a0_1) := (blk_cell BK521.out 1).trans rfl; have hfz6_0 := blk_frozen BK521.out 0; have hfz6_1 := blk_frozen BK521.out 1) | (go_at_call 14; (with_reducible refine (tnum_In.calls a0_0 a0_1 a1 t522 _ A4.out).mono ?_); rintro e w7 ⟨rfl, hb⟩; have n0_ := Aside0.mk (blk_below (g := gb521) (o := .cells #[.int .u64 a0_0, .int .u64 a0_1] 24 (0, 0)) (by (with_reducible repeat (first | apply bN_13 | apply bD_13 | apply bA_13)); exact BK521.out) hb); have n1_ := Aside0.mk (below_step (by repeat (first | (with_reducible first | exact HB.out | apply lA_13 | apply lN_13 | apply lD_13 | refine lS_13 ?_ GE521.out) | exact HB.out)) hb); clear BK521; clear HB; have BK521 := n0_; have HB := n1_; clear n0_ n1_; (try clear hb); (try clear hb2); (try clear hk); (try clear hi)))
    go_ret
    exact ⟨by first | rfl | (simp [errW_none, errW_some] <;> rfl) | (simp [*, errW_none, errW_some] <;> rfl), by repeat (first | (with_reducible first | exact HB.out | apply lA_13 | apply lN_13 | apply lD_13 | refine lS_13 ?_ GE521.out) | exact HB.out)⟩
  · rw [if_neg c3] at H
    have c3b0 : ((Go.bits .and .u64 a0_0 a0_1) == 0) = false := beq_eq_false_iff_ne.mpr c3
    have c3b1 : ((Go.bits .and .u64 a0_0 a0_1) != 0) = true := bne_iff_ne.mpr c3
    obtain rfl := Option.some.inj H
    go_enter Try.func49, Try.ntmps49
    go_wp2_with (first | ((with_reducible refine gate_dst (N := 2) rfl ?_); refine box_event ?hg (N := 2) ?hd (cs := #[.int .u64 a0_0, .int .u64 a0_1]) (t := 24) ?hr ?_; (case hd => rfl); (case hg => rfl); (case hr => first | (go_simp; done) | (go_simp; rfl)); intro gb521 hg w8 hbox hb; have n0_ := Aside0.mk (below_step (by repeat (first | (with_reducible first | exact HB.out | apply lA_13 | apply lN_13 | apply lD_13) | exact HB.out)) hb); have n1_ := Aside0.mk (hbox); have n2_ := Aside0.mk ((by rw [hg]; exact (below_size (by repeat (first | (with_reducible first | exact HB.out | apply lA_13 | apply lN_13 | apply lD_13) | exact HB.out))) : w.heap.size ≤ gb521)); have n3_ := Aside0.mk ((by rw [hg]; exact (below_size (by repeat (first | (with_reducible first | exact HB.out | apply lA_13 | apply lN_13 | apply lD_13) | exact HB.out))) : w.heap.size ≤ gb521)); clear HB; have HB := n0_; have BK521 := n1_; have GW521 := n2_; have GE521 := n3_; clear n0_ n1_ n2_ n3_; clear hb hbox hg; have hcz9_0 : w8.cell? ⟨gb521, 0, none⟩ = some (.int .u64 a0_0) := (blk_cell BK521.out 0).trans rfl; have hcz9_1 : w8.cell? ⟨gb521, 1, none⟩ = some (.int .u64 a0_1) := (blk_cell BK521.out 1).trans rfl; have hfz9_0 := blk_frozen BK521.out 0; have hfz9_1 := blk_frozen BK521.out 1))
    go_ret
    exact ⟨by first | rfl | (simp [errW_none, errW_some] <;> rfl) | (simp [*, errW_none, errW_some] <;> rfl), by repeat (first | (with_reducible first | exact HB.out | apply lA_13 | apply lN_13 | apply lD_13 | refine lS_13 ?_ GE521.out) | exact HB.out)⟩

end Go.Proofs.Ytkmnogcahpbdjaa.PA
