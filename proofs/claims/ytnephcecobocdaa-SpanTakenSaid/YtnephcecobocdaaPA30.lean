-- PRINTED by print.py (a twelfth state) out of the translation. Not trusted: Lean checks it.
import Derived.Test.YtnephcecobocdaaWRepsOne
import Derived.Test.YtnephcecobocdaaPA0
import Derived.Test.YtnephcecobocdaaSq
import Derived.Test.YtnephcecobocdaaPA5
import Derived.Test.YtnephcecobocdaaPA7
import Derived.Test.YtnephcecobocdaaPA26
namespace Go.Proofs.Ytnephcecobocdaa.PA
open Go.RowKit Go.Proofs.YtnephcecobocdaaW.PrintWords Go.Proofs.YtnephcecobocdaaW.PrintLast Go.Proofs.YtnephcecobocdaaW.PrintMore
attribute [local go_sem] max2_int min2_int max_two min_two max_three min_three max_four min_four   -- for this text's walks alone
set_option linter.unusedVariables false
set_option linter.unusedSimpArgs false

/-! ### lockgatelaw04_SpanTaken: function 4 -/
def lockgatelaw04_SpanTaken.l0 : Nat → Int → List Int → Int → Int → Int → Int → Int → Int → Int → Option (Bool)
 | 0, _, _, _, _, _, _, _, _, _ => none
 | k + 1, x5, x8, x9, x182000, x182001, x187000, x187001, x188000, x188001 => if x9 < (x8.length : Int) then (if 0 ≤ x9 then (if (Go.bits .andNot .u64 (rd x8 x9) x182001) = x182000 then (lockgatelaw04_SpanTaken.l0 k x5 x8 (wrap64 (x9 + 1)) x182000 x182001 x187000 x187001 x188000 x188001) else (some false)) else (none)) else ((span_UIn.f x187000 x187001 x5).bind fun t192 => (if t192 = true then ((span_SIn.f x188000 x188001 x5).bind fun t193 => (if t193 = true then ((lockgatelaw04_works.f k).bind fun t194 => (some t194)) else (some false))) else (some false)))
def lockgatelaw04_SpanTaken.f (k : Nat) (a0_0 : Int) (a0_1 : Int) (a1 : Int) : Option (Bool) := (span_FromT.f (Go.bits .andNot .u64 a0_0 a0_1) a0_1).bind fun bt182 => (lockgatelaw04_SpanTaken.l0 k (Go.bits .or .u64 (Go.bits .andNot .u64 a0_0 a0_1) (Go.bits .and .u64 a1 a0_1)) (([bt182.1, bt182.2.1, IntKind.u64.wrap (bt182.2.2.1), IntKind.u64.wrap (bt182.2.2.2)] : List Int)) 0 (Go.bits .andNot .u64 a0_0 a0_1) a0_1 bt182.1 bt182.2.1 bt182.2.2.1 bt182.2.2.2)
theorem lockgatelaw04_SpanTaken.mono_l : ∀ k, (∀ y0 y1 y2 y3 y4 y5 y6 y7 y8, LeO (lockgatelaw04_SpanTaken.l0 k y0 y1 y2 y3 y4 y5 y6 y7 y8) (lockgatelaw04_SpanTaken.l0 (k + 1) y0 y1 y2 y3 y4 y5 y6 y7 y8))
 | 0 => fun _ _ _ _ _ _ _ _ _ r h => by simp [lockgatelaw04_SpanTaken.l0] at h
 | k + 1 => by
  have ih0 := lockgatelaw04_SpanTaken.mono_l k
  ·intro y0 y1 y2 y3 y4 y5 y6 y7 y8
   unfold lockgatelaw04_SpanTaken.l0
   repeat' first
   | (with_reducible exact ih0 _ _ _ _ _ _ _ _ _)
   | (with_reducible exact lockgatelaw04_works.mono _)
   | (with_reducible exact LeO.refl _)
   | (with_reducible exact LeO.none _)
   | (with_reducible refine LeO.ite ?_ ?_)
   | (with_reducible refine LeO.bind ?_ (fun _ => ?_))
   | exact ih0 _ _ _ _ _ _ _ _ _
   | exact lockgatelaw04_works.mono _
   | exact LeO.none _
   | refine LeO.ite ?_ ?_
   | refine LeO.bind ?_ (fun _ => ?_)
theorem lockgatelaw04_SpanTaken.mono : ∀ a0 a1 a2 k, LeO (lockgatelaw04_SpanTaken.f k a0 a1 a2) (lockgatelaw04_SpanTaken.f (k + 1) a0 a1 a2) := by
 intro a0 a1 a2 k
 have ih0 := lockgatelaw04_SpanTaken.mono_l k
 unfold lockgatelaw04_SpanTaken.f
 repeat' first
  | (with_reducible exact ih0 _ _ _ _ _ _ _ _ _)
  | (with_reducible exact lockgatelaw04_works.mono _)
  | (with_reducible exact LeO.refl _)
  | (with_reducible exact LeO.none _)
  | (with_reducible refine LeO.ite ?_ ?_)
  | (with_reducible refine LeO.bind ?_ (fun _ => ?_))
  | exact ih0 _ _ _ _ _ _ _ _ _
  | exact lockgatelaw04_works.mono _
  | exact LeO.none _
  | refine LeO.ite ?_ ?_
  | refine LeO.bind ?_ (fun _ => ?_)
set_option maxHeartbeats 8000000 in
set_option maxRecDepth 100000 in
theorem lockgatelaw04_SpanTaken.calls (k : Nat) (a0_0 : Int) (a0_1 : Int) (a1 : Int) (r : Bool) (w : World) (HRT : Aside0 (r = true)) (h : lockgatelaw04_SpanTaken.f k a0_0 a0_1 a1 = some r) :
 Calls Try.prog 4 #[.agg #[.int .u64 a0_0, .int .u64 a0_1], .int .u64 a1] w fun e w' => e = .returned (.bool r) ∧ Below w.heap.size w w' := by
 have hu24 := Try.underlying24
 have hu26 := Try.underlying26
 have hu28 := Try.underlying28
 have HB := Aside0.mk (Below.refl w.heap.size w)
 have H : ((span_FromT.f (Go.bits .andNot .u64 a0_0 a0_1) a0_1).bind fun bt182 => (lockgatelaw04_SpanTaken.l0 k (Go.bits .or .u64 (Go.bits .andNot .u64 a0_0 a0_1) (Go.bits .and .u64 a1 a0_1)) (([bt182.1, bt182.2.1, IntKind.u64.wrap (bt182.2.2.1), IntKind.u64.wrap (bt182.2.2.2)] : List Int)) 0 (Go.bits .andNot .u64 a0_0 a0_1) a0_1 bt182.1 bt182.2.1 bt182.2.2.1 bt182.2.2.2)) = some r := h
 clear h
 replace H := Option.bind_eq_some_iff.mp H
 obtain ⟨⟨t182, t183, t184, t185⟩, A30, H⟩ := H
 replace H : (lockgatelaw04_SpanTaken.l0 k (Go.bits .or .u64 (Go.bits .andNot .u64 a0_0 a0_1) (Go.bits .and .u64 a1 a0_1)) (([t182, t183, IntKind.u64.wrap (t184), IntKind.u64.wrap (t185)] : List Int)) 0 (Go.bits .andNot .u64 a0_0 a0_1) a0_1 t182 t183 t184 t185) = some r := H
 have A3 := Aside0.mk A30
 clear A30
 obtain ⟨y188, hy188⟩ : ∃ y_ : List Int, y_ = (([t182, t183, IntKind.u64.wrap (t184), IntKind.u64.wrap (t185)] : List Int)) := ⟨_, rfl⟩
 replace H : (lockgatelaw04_SpanTaken.l0 k (Go.bits .or .u64 (Go.bits .andNot .u64 a0_0 a0_1) (Go.bits .and .u64 a1 a0_1)) y188 0 (Go.bits .andNot .u64 a0_0 a0_1) a0_1 t182 t183 t184 t185) = some r := by first | (rw [hy188]; with_reducible exact H) | (have H2_ := (Option.bind_some _ _).symm.trans H; rw [hy188]; with_reducible exact H2_) | (have H2_ := (Option.bind_some _ _).symm.trans H; with_reducible exact H2_) | with_reducible exact H | (rw [hy188]; exact H) | exact H
 have Ny188 := Aside0.mk hy188
 clear hy188
 have H' := Aside0.mk H
 clear H
 go_enter Try.func4, Try.ntmps4
 go_wp2_with (first | ((with_reducible refine gate_dst (N := 2) rfl ?_); refine box_event ?hg (N := 2) ?hd (cs := #[.int .u64 a0_0, .int .u64 a0_1]) (t := 24) ?hr ?_; (case hd => rfl); (case hg => rfl); (case hr => first | (go_simp; done) | (go_simp; rfl)); intro gb181 hg w4 hbox hb; have BK181 := Aside0.mk (hbox); have GW181 := bg_ hg; have GE181 := GW181; replace HB := bl_ hb; clear hb hbox hg; have hcqgb181_0 := c0_ BK181; have hfqgb181_0 := fz_ BK181 0; have hcqgb181_1 := c1_ BK181; have hfqgb181_1 := fz_ BK181 1; have hcz5_0 := c0_ BK181; have hcz5_1 := c1_ BK181; have hfz5_0 := fz_ BK181 0; have hfz5_1 := fz_ BK181 1) | (go_at_call 12; (with_reducible refine (span_FromT.calls (Go.bits .andNot .u64 a0_0 a0_1) a0_1 t182 t183 t184 t185 _ A3.out).mono ?_); rintro e w6 ⟨rfl, hb⟩; replace BK181 := Aside0.mk (blk_below (g := gb181) (o := .cells #[.int .u64 (Go.bits .andNot .u64 a0_0 a0_1), .int .u64 a0_1] 24 (0, 0)) (by (with_reducible repeat (first | apply bN_ | apply bD_ | apply bA_)); refine blk_put (cs := #[.int .u64 a0_0, .int .u64 a0_1]) ?_ 0 _ rfl; (with_reducible repeat (first | apply bN_ | apply bD_ | apply bA_)); exact BK181.out) hb); replace HB := bl_ hb; (try clear hb); (try clear hb2); (try clear hk); (try clear hi)) | ((with_reducible refine gate_dst (N := 6) rfl ?_); refine box_event ?hg (N := 6) ?hd (cs := #[.int .u64 0, .int .u64 0]) (t := 26) ?hr ?_; (case hd => rfl); (case hg => rfl); (case hr => first | (go_simp; done) | (go_simp; rfl)); intro gb186 hg w7 hbox hb; have BK186 := Aside0.mk (hbox); have GW186 := bg_ hg; have GE186 := GW186; have NB181_186 := bm_ hg BK181; have NB186_181 := bn_ hg BK181; replace BK181 := bb_ hb BK181; replace HB := bl_ hb; clear hb hbox hg; have hcqgb186_0 := c0_ BK186; have hfqgb186_0 := fz_ BK186 0; have hcqgb186_1 := c1_ BK186; have hfqgb186_1 := fz_ BK186 1) | ((with_reducible refine gate_dst (N := 7) rfl ?_); refine box_event ?hg (N := 7) ?hd (cs := #[.int .i64 0, .int .i64 0]) (t := 28) ?hr ?_; (case hd => rfl); (case hg => rfl); (case hr => first | (go_simp; done) | (go_simp; rfl)); intro gb187 hg w8 hbox hb; have BK187 := Aside0.mk (hbox); have GW187 := bg_ hg; have GE187 := GW187; have NB181_187 := bm_ hg BK181; have NB187_181 := bn_ hg BK181; have NB186_187 := bm_ hg BK186; have NB187_186 := bn_ hg BK186; replace BK181 := bb_ hb BK181; replace BK186 := bb_ hb BK186; replace HB := bl_ hb; clear hb hbox hg; have hcqgb187_0 := c0_ BK187; have hfqgb187_0 := fz_ BK187 0; have hcqgb187_1 := c1_ BK187; have hfqgb187_1 := fz_ BK187 1; have hnb9 := NB186_181.out; have hnc9 := NB181_186.out; have hnb10 := NB186_187.out; have hnc10 := NB187_186.out; have hcz11_0 := c0_ BK186; have hcz11_1 := c1_ BK186; have hfz11_0 := fz_ BK186 0; have hfz11_1 := fz_ BK186 1; have hnb12 := NB187_181.out; have hnc12 := NB181_187.out; have hcz13_0 := c0_ BK187; have hcz13_1 := c1_ BK187; have hfz13_0 := fz_ BK187 0; have hfz13_1 := fz_ BK187 1) | ((with_reducible refine gate_dst (N := 38) rfl ?_); refine Kd.R_lit (Kd.int .u64) _ 22 ?hg (N := 38) ?hd (xs := ([t182, t183, IntKind.u64.wrap (t184), IntKind.u64.wrap (t185)] : List Int)) (inner := [.int .u64 t182, .int .u64 t183, .int .u64 (IntKind.u64.wrap (t184)), .int .u64 (IntKind.u64.wrap (t185))]) (ok := fun _ => True) (okp := fun _ => True) ?hr ?hp (fun _ hk => hk) trivial (Below.refl _ _) (Nat.le_refl _) (by simp) ?_; (case hd => rfl); (case hg => rfl); (case hr => first | (go_simp; done) | (go_simp; rfl)); (case hp => exact (Reps.one (show Kd.M (Kd.int .u64) _ _ _ t182 [.int .u64 t182] from rfl) (Reps.one (show Kd.M (Kd.int .u64) _ _ _ t183 [.int .u64 t183] from rfl) (Reps.one (show Kd.M (Kd.int .u64) _ _ _ (IntKind.u64.wrap (t184)) [.int .u64 (IntKind.u64.wrap (t184))] from rfl) (Reps.one (show Kd.M (Kd.int .u64) _ _ _ (IntKind.u64.wrap (t185)) [.int .u64 (IntKind.u64.wrap (t185))] from rfl) (Reps.none _ _)))))); intro v189 w14 ho15 hb hg_ hnew_; clear hg_ hnew_; (first | rw [← Ny188.out] at ho15 | (simp only [Int.reduceToNat] at ho15; rw [← Ny188.out] at ho15)); have HO190 := Aside0.mk (Kd.R_lower ho15 (below_size (by repeat (first | (with_reducible first | exact HB.out | apply lA_ | apply lN_ | apply lD_ | refine lS_ ?_ GE181.out | refine lS_ ?_ GE186.out | refine lS_ ?_ GE187.out) | exact HB.out)))); replace BK181 := Aside0.mk (blk_below (g := gb181) (o := .cells #[.int .u64 (Go.bits .andNot .u64 a0_0 a0_1), .int .u64 a0_1] 24 (0, 0)) (by (with_reducible repeat (first | apply bN_ | apply bD_ | apply bA_)); refine blk_far ?_ NB181_187.out _; (with_reducible repeat (first | apply bN_ | apply bD_ | apply bA_)); refine blk_far ?_ NB181_187.out _; (with_reducible repeat (first | apply bN_ | apply bD_ | apply bA_)); refine blk_far ?_ NB181_186.out _; (with_reducible repeat (first | apply bN_ | apply bD_ | apply bA_)); refine blk_far ?_ NB181_186.out _; (with_reducible repeat (first | apply bN_ | apply bD_ | apply bA_)); exact BK181.out) hb); replace BK186 := Aside0.mk (blk_below (g := gb186) (o := .cells #[.int .u64 t182, .int .u64 t183] 26 (0, 0)) (by (with_reducible repeat (first | apply bN_ | apply bD_ | apply bA_)); refine blk_far ?_ NB186_187.out _; (with_reducible repeat (first | apply bN_ | apply bD_ | apply bA_)); refine blk_far ?_ NB186_187.out _; (with_reducible repeat (first | apply bN_ | apply bD_ | apply bA_)); refine blk_put (cs := #[.int .u64 t182, .int .u64 0]) ?_ 1 _ rfl; (with_reducible repeat (first | apply bN_ | apply bD_ | apply bA_)); refine blk_put (cs := #[.int .u64 0, .int .u64 0]) ?_ 0 _ rfl; (with_reducible repeat (first | apply bN_ | apply bD_ | apply bA_)); exact BK186.out) hb); replace BK187 := Aside0.mk (blk_below (g := gb187) (o := .cells #[.int .i64 t184, .int .i64 t185] 28 (0, 0)) (by (with_reducible repeat (first | apply bN_ | apply bD_ | apply bA_)); refine blk_put (cs := #[.int .i64 t184, .int .i64 0]) ?_ 1 _ rfl; (with_reducible repeat (first | apply bN_ | apply bD_ | apply bA_)); refine blk_put (cs := #[.int .i64 0, .int .i64 0]) ?_ 0 _ rfl; (with_reducible repeat (first | apply bN_ | apply bD_ | apply bA_)); refine blk_far ?_ NB187_186.out _; (with_reducible repeat (first | apply bN_ | apply bD_ | apply bA_)); refine blk_far ?_ NB187_186.out _; (with_reducible repeat (first | apply bN_ | apply bD_ | apply bA_)); exact BK187.out) hb); replace HB := bl_ hb; clear hb ho15))
 repeat (go_quiet (first | ((with_reducible refine gate_dst (N := 2) rfl ?_); refine box_event ?hg (N := 2) ?hd (cs := #[.int .u64 a0_0, .int .u64 a0_1]) (t := 24) ?hr ?_; (case hd => rfl); (case hg => rfl); (case hr => first | (go_simp; done) | (go_simp; rfl)); intro gb181 hg w4 hbox hb; have BK181 := Aside0.mk (hbox); have GW181 := bg_ hg; have GE181 := GW181; replace HB := bl_ hb; clear hb hbox hg; have hcqgb181_0 := c0_ BK181; have hfqgb181_0 := fz_ BK181 0; have hcqgb181_1 := c1_ BK181; have hfqgb181_1 := fz_ BK181 1; have hcz5_0 := c0_ BK181; have hcz5_1 := c1_ BK181; have hfz5_0 := fz_ BK181 0; have hfz5_1 := fz_ BK181 1) | (go_at_call 12; (with_reducible refine (span_FromT.calls (Go.bits .andNot .u64 a0_0 a0_1) a0_1 t182 t183 t184 t185 _ A3.out).mono ?_); rintro e w6 ⟨rfl, hb⟩; replace BK181 := Aside0.mk (blk_below (g := gb181) (o := .cells #[.int .u64 (Go.bits .andNot .u64 a0_0 a0_1), .int .u64 a0_1] 24 (0, 0)) (by (with_reducible repeat (first | apply bN_ | apply bD_ | apply bA_)); refine blk_put (cs := #[.int .u64 a0_0, .int .u64 a0_1]) ?_ 0 _ rfl; (with_reducible repeat (first | apply bN_ | apply bD_ | apply bA_)); exact BK181.out) hb); replace HB := bl_ hb; (try clear hb); (try clear hb2); (try clear hk); (try clear hi)) | ((with_reducible refine gate_dst (N := 6) rfl ?_); refine box_event ?hg (N := 6) ?hd (cs := #[.int .u64 0, .int .u64 0]) (t := 26) ?hr ?_; (case hd => rfl); (case hg => rfl); (case hr => first | (go_simp; done) | (go_simp; rfl)); intro gb186 hg w7 hbox hb; have BK186 := Aside0.mk (hbox); have GW186 := bg_ hg; have GE186 := GW186; have NB181_186 := bm_ hg BK181; have NB186_181 := bn_ hg BK181; replace BK181 := bb_ hb BK181; replace HB := bl_ hb; clear hb hbox hg; have hcqgb186_0 := c0_ BK186; have hfqgb186_0 := fz_ BK186 0; have hcqgb186_1 := c1_ BK186; have hfqgb186_1 := fz_ BK186 1) | ((with_reducible refine gate_dst (N := 7) rfl ?_); refine box_event ?hg (N := 7) ?hd (cs := #[.int .i64 0, .int .i64 0]) (t := 28) ?hr ?_; (case hd => rfl); (case hg => rfl); (case hr => first | (go_simp; done) | (go_simp; rfl)); intro gb187 hg w8 hbox hb; have BK187 := Aside0.mk (hbox); have GW187 := bg_ hg; have GE187 := GW187; have NB181_187 := bm_ hg BK181; have NB187_181 := bn_ hg BK181; have NB186_187 := bm_ hg BK186; have NB187_186 := bn_ hg BK186; replace BK181 := bb_ hb BK181; replace BK186 := bb_ hb BK186; replace HB := bl_ hb; clear hb hbox hg; have hcqgb187_0 := c0_ BK187; have hfqgb187_0 := fz_ BK187 0; have hcqgb187_1 := c1_ BK187; have hfqgb187_1 := fz_ BK187 1; have hnb9 := NB186_181.out; have hnc9 := NB181_186.out; have hnb10 := NB186_187.out; have hnc10 := NB187_186.out; have hcz11_0 := c0_ BK186; have hcz11_1 := c1_ BK186; have hfz11_0 := fz_ BK186 0; have hfz11_1 := fz_ BK186 1; have hnb12 := NB187_181.out; have hnc12 := NB181_187.out; have hcz13_0 := c0_ BK187; have hcz13_1 := c1_ BK187; have hfz13_0 := fz_ BK187 0; have hfz13_1 := fz_ BK187 1) | ((with_reducible refine gate_dst (N := 38) rfl ?_); refine Kd.R_lit (Kd.int .u64) _ 22 ?hg (N := 38) ?hd (xs := ([t182, t183, IntKind.u64.wrap (t184), IntKind.u64.wrap (t185)] : List Int)) (inner := [.int .u64 t182, .int .u64 t183, .int .u64 (IntKind.u64.wrap (t184)), .int .u64 (IntKind.u64.wrap (t185))]) (ok := fun _ => True) (okp := fun _ => True) ?hr ?hp (fun _ hk => hk) trivial (Below.refl _ _) (Nat.le_refl _) (by simp) ?_; (case hd => rfl); (case hg => rfl); (case hr => first | (go_simp; done) | (go_simp; rfl)); (case hp => exact (Reps.one (show Kd.M (Kd.int .u64) _ _ _ t182 [.int .u64 t182] from rfl) (Reps.one (show Kd.M (Kd.int .u64) _ _ _ t183 [.int .u64 t183] from rfl) (Reps.one (show Kd.M (Kd.int .u64) _ _ _ (IntKind.u64.wrap (t184)) [.int .u64 (IntKind.u64.wrap (t184))] from rfl) (Reps.one (show Kd.M (Kd.int .u64) _ _ _ (IntKind.u64.wrap (t185)) [.int .u64 (IntKind.u64.wrap (t185))] from rfl) (Reps.none _ _)))))); intro v189 w14 ho15 hb hg_ hnew_; clear hg_ hnew_; (first | rw [← Ny188.out] at ho15 | (simp only [Int.reduceToNat] at ho15; rw [← Ny188.out] at ho15)); have HO190 := Aside0.mk (Kd.R_lower ho15 (below_size (by repeat (first | (with_reducible first | exact HB.out | apply lA_ | apply lN_ | apply lD_ | refine lS_ ?_ GE181.out | refine lS_ ?_ GE186.out | refine lS_ ?_ GE187.out) | exact HB.out)))); replace BK181 := Aside0.mk (blk_below (g := gb181) (o := .cells #[.int .u64 (Go.bits .andNot .u64 a0_0 a0_1), .int .u64 a0_1] 24 (0, 0)) (by (with_reducible repeat (first | apply bN_ | apply bD_ | apply bA_)); refine blk_far ?_ NB181_187.out _; (with_reducible repeat (first | apply bN_ | apply bD_ | apply bA_)); refine blk_far ?_ NB181_187.out _; (with_reducible repeat (first | apply bN_ | apply bD_ | apply bA_)); refine blk_far ?_ NB181_186.out _; (with_reducible repeat (first | apply bN_ | apply bD_ | apply bA_)); refine blk_far ?_ NB181_186.out _; (with_reducible repeat (first | apply bN_ | apply bD_ | apply bA_)); exact BK181.out) hb); replace BK186 := Aside0.mk (blk_below (g := gb186) (o := .cells #[.int .u64 t182, .int .u64 t183] 26 (0, 0)) (by (with_reducible repeat (first | apply bN_ | apply bD_ | apply bA_)); refine blk_far ?_ NB186_187.out _; (with_reducible repeat (first | apply bN_ | apply bD_ | apply bA_)); refine blk_far ?_ NB186_187.out _; (with_reducible repeat (first | apply bN_ | apply bD_ | apply bA_)); refine blk_put (cs := #[.int .u64 t182, .int .u64 0]) ?_ 1 _ rfl; (with_reducible repeat (first | apply bN_ | apply bD_ | apply bA_)); refine blk_put (cs := #[.int .u64 0, .int .u64 0]) ?_ 0 _ rfl; (with_reducible repeat (first | apply bN_ | apply bD_ | apply bA_)); exact BK186.out) hb); replace BK187 := Aside0.mk (blk_below (g := gb187) (o := .cells #[.int .i64 t184, .int .i64 t185] 28 (0, 0)) (by (with_reducible repeat (first | apply bN_ | apply bD_ | apply bA_)); refine blk_put (cs := #[.int .i64 t184, .int .i64 0]) ?_ 1 _ rfl; (with_reducible repeat (first | apply bN_ | apply bD_ | apply bA_)); refine blk_put (cs := #[.int .i64 0, .int .i64 0]) ?_ 0 _ rfl; (with_reducible repeat (first | apply bN_ | apply bD_ | apply bA_)); refine blk_far ?_ NB187_186.out _; (with_reducible repeat (first | apply bN_ | apply bD_ | apply bA_)); refine blk_far ?_ NB187_186.out _; (with_reducible repeat (first | apply bN_ | apply bD_ | apply bA_)); exact BK187.out) hb); replace HB := bl_ hb; clear hb ho15)); try go_wp2_with (first | ((with_reducible refine gate_dst (N := 2) rfl ?_); refine box_event ?hg (N := 2) ?hd (cs := #[.int .u64 a0_0, .int .u64 a0_1]) (t := 24) ?hr ?_; (case hd => rfl); (case hg => rfl); (case hr => first | (go_simp; done) | (go_simp; rfl)); intro gb181 hg w4 hbox hb; have BK181 := Aside0.mk (hbox); have GW181 := bg_ hg; have GE181 := GW181; replace HB := bl_ hb; clear hb hbox hg; have hcqgb181_0 := c0_ BK181; have hfqgb181_0 := fz_ BK181 0; have hcqgb181_1 := c1_ BK181; have hfqgb181_1 := fz_ BK181 1; have hcz5_0 := c0_ BK181; have hcz5_1 := c1_ BK181; have hfz5_0 := fz_ BK181 0; have hfz5_1 := fz_ BK181 1) | (go_at_call 12; (with_reducible refine (span_FromT.calls (Go.bits .andNot .u64 a0_0 a0_1) a0_1 t182 t183 t184 t185 _ A3.out).mono ?_); rintro e w6 ⟨rfl, hb⟩; replace BK181 := Aside0.mk (blk_below (g := gb181) (o := .cells #[.int .u64 (Go.bits .andNot .u64 a0_0 a0_1), .int .u64 a0_1] 24 (0, 0)) (by (with_reducible repeat (first | apply bN_ | apply bD_ | apply bA_)); refine blk_put (cs := #[.int .u64 a0_0, .int .u64 a0_1]) ?_ 0 _ rfl; (with_reducible repeat (first | apply bN_ | apply bD_ | apply bA_)); exact BK181.out) hb); replace HB := bl_ hb; (try clear hb); (try clear hb2); (try clear hk); (try clear hi)) | ((with_reducible refine gate_dst (N := 6) rfl ?_); refine box_event ?hg (N := 6) ?hd (cs := #[.int .u64 0, .int .u64 0]) (t := 26) ?hr ?_; (case hd => rfl); (case hg => rfl); (case hr => first | (go_simp; done) | (go_simp; rfl)); intro gb186 hg w7 hbox hb; have BK186 := Aside0.mk (hbox); have GW186 := bg_ hg; have GE186 := GW186; have NB181_186 := bm_ hg BK181; have NB186_181 := bn_ hg BK181; replace BK181 := bb_ hb BK181; replace HB := bl_ hb; clear hb hbox hg; have hcqgb186_0 := c0_ BK186; have hfqgb186_0 := fz_ BK186 0; have hcqgb186_1 := c1_ BK186; have hfqgb186_1 := fz_ BK186 1) | ((with_reducible refine gate_dst (N := 7) rfl ?_); refine box_event ?hg (N := 7) ?hd (cs := #[.int .i64 0, .int .i64 0]) (t := 28) ?hr ?_; (case hd => rfl); (case hg => rfl); (case hr => first | (go_simp; done) | (go_simp; rfl)); intro gb187 hg w8 hbox hb; have BK187 := Aside0.mk (hbox); have GW187 := bg_ hg; have GE187 := GW187; have NB181_187 := bm_ hg BK181; have NB187_181 := bn_ hg BK181; have NB186_187 := bm_ hg BK186; have NB187_186 := bn_ hg BK186; replace BK181 := bb_ hb BK181; replace BK186 := bb_ hb BK186; replace HB := bl_ hb; clear hb hbox hg; have hcqgb187_0 := c0_ BK187; have hfqgb187_0 := fz_ BK187 0; have hcqgb187_1 := c1_ BK187; have hfqgb187_1 := fz_ BK187 1; have hnb9 := NB186_181.out; have hnc9 := NB181_186.out; have hnb10 := NB186_187.out; have hnc10 := NB187_186.out; have hcz11_0 := c0_ BK186; have hcz11_1 := c1_ BK186; have hfz11_0 := fz_ BK186 0; have hfz11_1 := fz_ BK186 1; have hnb12 := NB187_181.out; have hnc12 := NB181_187.out; have hcz13_0 := c0_ BK187; have hcz13_1 := c1_ BK187; have hfz13_0 := fz_ BK187 0; have hfz13_1 := fz_ BK187 1) | ((with_reducible refine gate_dst (N := 38) rfl ?_); refine Kd.R_lit (Kd.int .u64) _ 22 ?hg (N := 38) ?hd (xs := ([t182, t183, IntKind.u64.wrap (t184), IntKind.u64.wrap (t185)] : List Int)) (inner := [.int .u64 t182, .int .u64 t183, .int .u64 (IntKind.u64.wrap (t184)), .int .u64 (IntKind.u64.wrap (t185))]) (ok := fun _ => True) (okp := fun _ => True) ?hr ?hp (fun _ hk => hk) trivial (Below.refl _ _) (Nat.le_refl _) (by simp) ?_; (case hd => rfl); (case hg => rfl); (case hr => first | (go_simp; done) | (go_simp; rfl)); (case hp => exact (Reps.one (show Kd.M (Kd.int .u64) _ _ _ t182 [.int .u64 t182] from rfl) (Reps.one (show Kd.M (Kd.int .u64) _ _ _ t183 [.int .u64 t183] from rfl) (Reps.one (show Kd.M (Kd.int .u64) _ _ _ (IntKind.u64.wrap (t184)) [.int .u64 (IntKind.u64.wrap (t184))] from rfl) (Reps.one (show Kd.M (Kd.int .u64) _ _ _ (IntKind.u64.wrap (t185)) [.int .u64 (IntKind.u64.wrap (t185))] from rfl) (Reps.none _ _)))))); intro v189 w14 ho15 hb hg_ hnew_; clear hg_ hnew_; (first | rw [← Ny188.out] at ho15 | (simp only [Int.reduceToNat] at ho15; rw [← Ny188.out] at ho15)); have HO190 := Aside0.mk (Kd.R_lower ho15 (below_size (by repeat (first | (with_reducible first | exact HB.out | apply lA_ | apply lN_ | apply lD_ | refine lS_ ?_ GE181.out | refine lS_ ?_ GE186.out | refine lS_ ?_ GE187.out) | exact HB.out)))); replace BK181 := Aside0.mk (blk_below (g := gb181) (o := .cells #[.int .u64 (Go.bits .andNot .u64 a0_0 a0_1), .int .u64 a0_1] 24 (0, 0)) (by (with_reducible repeat (first | apply bN_ | apply bD_ | apply bA_)); refine blk_far ?_ NB181_187.out _; (with_reducible repeat (first | apply bN_ | apply bD_ | apply bA_)); refine blk_far ?_ NB181_187.out _; (with_reducible repeat (first | apply bN_ | apply bD_ | apply bA_)); refine blk_far ?_ NB181_186.out _; (with_reducible repeat (first | apply bN_ | apply bD_ | apply bA_)); refine blk_far ?_ NB181_186.out _; (with_reducible repeat (first | apply bN_ | apply bD_ | apply bA_)); exact BK181.out) hb); replace BK186 := Aside0.mk (blk_below (g := gb186) (o := .cells #[.int .u64 t182, .int .u64 t183] 26 (0, 0)) (by (with_reducible repeat (first | apply bN_ | apply bD_ | apply bA_)); refine blk_far ?_ NB186_187.out _; (with_reducible repeat (first | apply bN_ | apply bD_ | apply bA_)); refine blk_far ?_ NB186_187.out _; (with_reducible repeat (first | apply bN_ | apply bD_ | apply bA_)); refine blk_put (cs := #[.int .u64 t182, .int .u64 0]) ?_ 1 _ rfl; (with_reducible repeat (first | apply bN_ | apply bD_ | apply bA_)); refine blk_put (cs := #[.int .u64 0, .int .u64 0]) ?_ 0 _ rfl; (with_reducible repeat (first | apply bN_ | apply bD_ | apply bA_)); exact BK186.out) hb); replace BK187 := Aside0.mk (blk_below (g := gb187) (o := .cells #[.int .i64 t184, .int .i64 t185] 28 (0, 0)) (by (with_reducible repeat (first | apply bN_ | apply bD_ | apply bA_)); refine blk_put (cs := #[.int .i64 t184, .int .i64 0]) ?_ 1 _ rfl; (with_reducible repeat (first | apply bN_ | apply bD_ | apply bA_)); refine blk_put (cs := #[.int .i64 0, .int .i64 0]) ?_ 0 _ rfl; (with_reducible repeat (first | apply bN_ | apply bD_ | apply bA_)); refine blk_far ?_ NB187_186.out _; (with_reducible repeat (first | apply bN_ | apply bD_ | apply bA_)); refine blk_far ?_ NB187_186.out _; (with_reducible repeat (first | apply bN_ | apply bD_ | apply bA_)); exact BK187.out) hb); replace HB := bl_ hb; clear hb ho15)))
 go_loopg [9] k (fun kq v9 w' => ∃ (x9_1 : Int), v9 = .int .i64 x9_1 ∧ Aside0 (lockgatelaw04_SpanTaken.l0 kq (Go.bits .or .u64 (Go.bits .andNot .u64 a0_0 a0_1) (Go.bits .and .u64 a1 a0_1)) y188 x9_1 (Go.bits .andNot .u64 a0_0 a0_1) a0_1 t182 t183 t184 t185 = some r) ∧ Aside0 (kq ≤ k) ∧ Aside0 (Kd.R (Kd.int .u64) 22 w' w.heap.size (fun _ => True) v189 y188) ∧ Aside0 (w'.heap[gb181]? = some (.cells #[.int .u64 (Go.bits .andNot .u64 a0_0 a0_1), .int .u64 a0_1] 24 (0, 0))) ∧ Aside0 (w'.heap[gb186]? = some (.cells #[.int .u64 t182, .int .u64 t183] 26 (0, 0))) ∧ Aside0 (w'.heap[gb187]? = some (.cells #[.int .i64 t184, .int .i64 t185] 28 (0, 0))) ∧ Aside0 (Below w.heap.size w w'))
 case atStart => exact ⟨(0), (by first | rfl | (simp; done) | (simp [*]; done)), H', ⟨Nat.le_refl _⟩, ⟨by (with_reducible repeat (first | apply Kd.R_alloc | apply Kd.R_drewN | apply Kd.R_drew)); exact HO190.out⟩, ⟨by (with_reducible repeat (first | apply bN_ | apply bD_ | apply bA_)); exact BK181.out⟩, ⟨by (with_reducible repeat (first | apply bN_ | apply bD_ | apply bA_)); exact BK186.out⟩, ⟨by (with_reducible repeat (first | apply bN_ | apply bD_ | apply bA_)); exact BK187.out⟩, ⟨by repeat (first | (with_reducible first | exact HB.out | apply lA_ | apply lN_ | apply lD_ | refine lS_ ?_ GE181.out | refine lS_ ?_ GE186.out | refine lS_ ?_ GE187.out) | exact HB.out)⟩⟩
 case round =>
  clear H'
  try clear c1
  try clear p2
  try clear c4
  try clear c9
  try clear c10
  try clear c12
  try clear hcz11_0
  try clear hcz11_1
  try clear hcz13_0
  try clear hcz13_1
  try clear hcz5_0
  try clear hcz5_1
  try clear hfz11_0
  try clear hfz11_1
  try clear hfz13_0
  try clear hfz13_1
  try clear hfz5_0
  try clear hfz5_1
  obtain ⟨x9_1, rfl, HA, HK1, HO_8, BK181, BK186, BK187, HB⟩ := hrel
  cases gk with
  | zero => exact absurd HA.out (by simp [lockgatelaw04_SpanTaken.l0])
  | succ k1 =>
   have H := HA.out
   clear HA
   simp only [lockgatelaw04_SpanTaken.l0] at H
   by_cases c16 : x9_1 < (y188.length : Int)
   ·rw [if_pos c16] at H
    have c16b0 : decide (x9_1 < (y188.length : Int)) = true := decide_eq_true c16
    clear c16
    by_cases c17 : 0 ≤ x9_1
    ·rw [if_pos c17] at H
     have c17b0 : decide (0 ≤ x9_1) = true := decide_eq_true c17
     clear c17
     by_cases c18 : (Go.bits .andNot .u64 (rd y188 x9_1) a0_1) = (Go.bits .andNot .u64 a0_0 a0_1)
     ·rw [if_pos c18] at H
      have c18b0 : ((Go.bits .andNot .u64 (rd y188 x9_1) a0_1) == (Go.bits .andNot .u64 a0_0 a0_1)) = true := beq_iff_eq.mpr c18
      have c18b1 : ((Go.bits .andNot .u64 (rd y188 x9_1) a0_1) != (Go.bits .andNot .u64 a0_0 a0_1)) = false := bne_eq_false_iff_eq.mpr c18
      clear c18
      have H' := Aside0.mk H
      clear H
      obtain ⟨Ao19, co19, eo19⟩ := Kd.R_slice HO_8.out
      subst eo19
      have p191 : 0 ≤ (x9_1 : Int) := of_decide_eq_true (by first | (with_reducible assumption) | assumption)
      have q191 : x9_1 < (y188.length : Int) := of_decide_eq_true (by first | (with_reducible assumption) | assumption)
      obtain ⟨ad191, e191, hx191_0⟩ := Kd.at_int (Kd.R_reads' HO_8.out).2.2 x9_1 p191 q191
      cases e191
      replace p191 := eq_true p191
      replace q191 := eq_true q191
      have hnb20 := NB181_186.out
      have hnc20 := NB186_181.out
      have hnb21 := NB181_187.out
      have hnc21 := NB187_181.out
      have hcz22_0 := c0_ BK181
      have hcz22_1 := c1_ BK181
      have hfz22_0 := fz_ BK181 0
      have hfz22_1 := fz_ BK181 1
      go_wp2
      repeat (go_quiet (fail); try go_wp2)
      go_roundg k1
      case measure => have := HK1.out; omega
      case rel => exact ⟨(wrap64 (x9_1 + 1)), (by first | rfl | (simp; done) | (simp [*]; done)), H', ⟨by have := HK1.out; omega⟩, ⟨by (with_reducible repeat (first | apply Kd.R_alloc | apply Kd.R_drewN | apply Kd.R_drew)); exact HO_8.out⟩, ⟨by (with_reducible repeat (first | apply bN_ | apply bD_ | apply bA_)); exact BK181.out⟩, ⟨by (with_reducible repeat (first | apply bN_ | apply bD_ | apply bA_)); exact BK186.out⟩, ⟨by (with_reducible repeat (first | apply bN_ | apply bD_ | apply bA_)); exact BK187.out⟩, ⟨by repeat (first | (with_reducible first | exact HB.out | apply lA_ | apply lN_ | apply lD_ | refine lS_ ?_ GE181.out | refine lS_ ?_ GE186.out | refine lS_ ?_ GE187.out) | exact HB.out)⟩⟩
     ·rw [if_neg c18] at H
      have c18b0 : ((Go.bits .andNot .u64 (rd y188 x9_1) a0_1) == (Go.bits .andNot .u64 a0_0 a0_1)) = false := beq_eq_false_iff_ne.mpr c18
      have c18b1 : ((Go.bits .andNot .u64 (rd y188 x9_1) a0_1) != (Go.bits .andNot .u64 a0_0 a0_1)) = true := bne_iff_ne.mpr c18
      exact absurd ((Option.some.inj H).trans HRT.out) (by decide)
    ·rw [if_neg c17] at H
     exact absurd H (by simp)
   ·rw [if_neg c16] at H
    have c16b0 : decide (x9_1 < (y188.length : Int)) = false := decide_eq_false c16
    clear c16
    replace H := Option.bind_eq_some_iff.mp H
    obtain ⟨t192, A230, H⟩ := H
    replace H : (if t192 = true then ((span_SIn.f t184 t185 (Go.bits .or .u64 (Go.bits .andNot .u64 a0_0 a0_1) (Go.bits .and .u64 a1 a0_1))).bind fun t193 => (if t193 = true then ((lockgatelaw04_works.f k1).bind fun t194 => (some t194)) else (some false))) else (some false)) = some r := H
    have A23 := Aside0.mk A230
    clear A230
    by_cases c24 : t192 = true
    ·subst c24
     have H1 : ((span_SIn.f t184 t185 (Go.bits .or .u64 (Go.bits .andNot .u64 a0_0 a0_1) (Go.bits .and .u64 a1 a0_1))).bind fun t193 => (if t193 = true then ((lockgatelaw04_works.f k1).bind fun t194 => (some t194)) else (some false))) = some r := by rw [if_pos rfl] at H; exact H
     clear H
     have H := H1
     clear H1
     replace H := Option.bind_eq_some_iff.mp H
     obtain ⟨t193, A250, H⟩ := H
     replace H : (if t193 = true then ((lockgatelaw04_works.f k1).bind fun t194 => (some t194)) else (some false)) = some r := H
     have A25 := Aside0.mk A250
     clear A250
     by_cases c26 : t193 = true
     ·subst c26
      have H1 : ((lockgatelaw04_works.f k1).bind fun t194 => (some t194)) = some r := by rw [if_pos rfl] at H; exact H
      clear H
      have H := H1
      clear H1
      replace H := Option.bind_eq_some_iff.mp H
      obtain ⟨t194, A270, H⟩ := H
      replace H : (some t194) = some r := H
      have A27 := Aside0.mk A270
      clear A270
      obtain rfl := Option.some.inj H
      obtain ⟨Ao28, co28, eo28⟩ := Kd.R_slice HO_8.out
      subst eo28
      have hnb29 := NB186_181.out
      have hnc29 := NB181_186.out
      have hnb30 := NB186_187.out
      have hnc30 := NB187_186.out
      have hcz31_0 := c0_ BK186
      have hcz31_1 := c1_ BK186
      have hfz31_0 := fz_ BK186 0
      have hfz31_1 := fz_ BK186 1
      go_wp2_with (first | (go_at_call 15; (with_reducible refine (span_UIn.calls t182 t183 (Go.bits .or .u64 (Go.bits .andNot .u64 a0_0 a0_1) (Go.bits .and .u64 a1 a0_1)) true _ A23.out).mono ?_); rintro e w32 ⟨rfl, hb⟩; replace HO_8 := Aside0.mk (Kd.R_below (by (with_reducible repeat (first | apply Kd.R_alloc | apply Kd.R_drewN | apply Kd.R_drew)); exact HO_8.out) hb); replace BK181 := bb_ hb BK181; replace BK186 := bb_ hb BK186; replace BK187 := bb_ hb BK187; replace HB := bl_ hb; (try clear hb); (try clear hb2); (try clear hk); (try clear hi); have hnb33 := NB187_181.out; have hnc33 := NB181_187.out; have hcz34_0 := c0_ BK187; have hcz34_1 := c1_ BK187; have hfz34_0 := fz_ BK187 0; have hfz34_1 := fz_ BK187 1) | (go_at_call 16; (with_reducible refine (span_SIn.calls t184 t185 (Go.bits .or .u64 (Go.bits .andNot .u64 a0_0 a0_1) (Go.bits .and .u64 a1 a0_1)) true _ A25.out).mono ?_); rintro e w35 ⟨rfl, hb⟩; replace HO_8 := Aside0.mk (Kd.R_below (by (with_reducible repeat (first | apply Kd.R_alloc | apply Kd.R_drewN | apply Kd.R_drew)); exact HO_8.out) hb); replace BK181 := bb_ hb BK181; replace BK186 := bb_ hb BK186; replace BK187 := bb_ hb BK187; replace HB := bl_ hb; (try clear hb); (try clear hb2); (try clear hk); (try clear hi)) | (go_at_call 14; (with_reducible refine (lockgatelaw04_works.calls k1  t194 _ A27.out).mono ?_); rintro e w36 ⟨rfl, hb⟩; replace HO_8 := Aside0.mk (Kd.R_below (by (with_reducible repeat (first | apply Kd.R_alloc | apply Kd.R_drewN | apply Kd.R_drew)); exact HO_8.out) hb); replace BK181 := bb_ hb BK181; replace BK186 := bb_ hb BK186; replace BK187 := bb_ hb BK187; replace HB := bl_ hb; (try clear hb); (try clear hb2); (try clear hk); (try clear hi)))
      repeat (go_quiet (first | (go_at_call 15; (with_reducible refine (span_UIn.calls t182 t183 (Go.bits .or .u64 (Go.bits .andNot .u64 a0_0 a0_1) (Go.bits .and .u64 a1 a0_1)) true _ A23.out).mono ?_); rintro e w32 ⟨rfl, hb⟩; replace HO_8 := Aside0.mk (Kd.R_below (by (with_reducible repeat (first | apply Kd.R_alloc | apply Kd.R_drewN | apply Kd.R_drew)); exact HO_8.out) hb); replace BK181 := bb_ hb BK181; replace BK186 := bb_ hb BK186; replace BK187 := bb_ hb BK187; replace HB := bl_ hb; (try clear hb); (try clear hb2); (try clear hk); (try clear hi); have hnb33 := NB187_181.out; have hnc33 := NB181_187.out; have hcz34_0 := c0_ BK187; have hcz34_1 := c1_ BK187; have hfz34_0 := fz_ BK187 0; have hfz34_1 := fz_ BK187 1) | (go_at_call 16; (with_reducible refine (span_SIn.calls t184 t185 (Go.bits .or .u64 (Go.bits .andNot .u64 a0_0 a0_1) (Go.bits .and .u64 a1 a0_1)) true _ A25.out).mono ?_); rintro e w35 ⟨rfl, hb⟩; replace HO_8 := Aside0.mk (Kd.R_below (by (with_reducible repeat (first | apply Kd.R_alloc | apply Kd.R_drewN | apply Kd.R_drew)); exact HO_8.out) hb); replace BK181 := bb_ hb BK181; replace BK186 := bb_ hb BK186; replace BK187 := bb_ hb BK187; replace HB := bl_ hb; (try clear hb); (try clear hb2); (try clear hk); (try clear hi)) | (go_at_call 14; (with_reducible refine (lockgatelaw04_works.calls k1  t194 _ A27.out).mono ?_); rintro e w36 ⟨rfl, hb⟩; replace HO_8 := Aside0.mk (Kd.R_below (by (with_reducible repeat (first | apply Kd.R_alloc | apply Kd.R_drewN | apply Kd.R_drew)); exact HO_8.out) hb); replace BK181 := bb_ hb BK181; replace BK186 := bb_ hb BK186; replace BK187 := bb_ hb BK187; replace HB := bl_ hb; (try clear hb); (try clear hb2); (try clear hk); (try clear hi))); try go_wp2_with (first | (go_at_call 15; (with_reducible refine (span_UIn.calls t182 t183 (Go.bits .or .u64 (Go.bits .andNot .u64 a0_0 a0_1) (Go.bits .and .u64 a1 a0_1)) true _ A23.out).mono ?_); rintro e w32 ⟨rfl, hb⟩; replace HO_8 := Aside0.mk (Kd.R_below (by (with_reducible repeat (first | apply Kd.R_alloc | apply Kd.R_drewN | apply Kd.R_drew)); exact HO_8.out) hb); replace BK181 := bb_ hb BK181; replace BK186 := bb_ hb BK186; replace BK187 := bb_ hb BK187; replace HB := bl_ hb; (try clear hb); (try clear hb2); (try clear hk); (try clear hi); have hnb33 := NB187_181.out; have hnc33 := NB181_187.out; have hcz34_0 := c0_ BK187; have hcz34_1 := c1_ BK187; have hfz34_0 := fz_ BK187 0; have hfz34_1 := fz_ BK187 1) | (go_at_call 16; (with_reducible refine (span_SIn.calls t184 t185 (Go.bits .or .u64 (Go.bits .andNot .u64 a0_0 a0_1) (Go.bits .and .u64 a1 a0_1)) true _ A25.out).mono ?_); rintro e w35 ⟨rfl, hb⟩; replace HO_8 := Aside0.mk (Kd.R_below (by (with_reducible repeat (first | apply Kd.R_alloc | apply Kd.R_drewN | apply Kd.R_drew)); exact HO_8.out) hb); replace BK181 := bb_ hb BK181; replace BK186 := bb_ hb BK186; replace BK187 := bb_ hb BK187; replace HB := bl_ hb; (try clear hb); (try clear hb2); (try clear hk); (try clear hi)) | (go_at_call 14; (with_reducible refine (lockgatelaw04_works.calls k1  t194 _ A27.out).mono ?_); rintro e w36 ⟨rfl, hb⟩; replace HO_8 := Aside0.mk (Kd.R_below (by (with_reducible repeat (first | apply Kd.R_alloc | apply Kd.R_drewN | apply Kd.R_drew)); exact HO_8.out) hb); replace BK181 := bb_ hb BK181; replace BK186 := bb_ hb BK186; replace BK187 := bb_ hb BK187; replace HB := bl_ hb; (try clear hb); (try clear hb2); (try clear hk); (try clear hi))))
      go_ret
      exact ⟨vv_, bz_⟩
     ·replace c26 := Bool.eq_false_iff.mpr c26
      subst c26
      have H1 : (some false) = some r := by rw [if_neg (show ¬ (false = true) by decide)] at H; exact H
      clear H
      have H := H1
      clear H1
      exact absurd ((Option.some.inj H).trans HRT.out) (by decide)
    ·replace c24 := Bool.eq_false_iff.mpr c24
     subst c24
     have H1 : (some false) = some r := by rw [if_neg (show ¬ (false = true) by decide)] at H; exact H
     clear H
     have H := H1
     clear H1
     exact absurd ((Option.some.inj H).trans HRT.out) (by decide)

end Go.Proofs.Ytnephcecobocdaa.PA
