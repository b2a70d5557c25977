-- PRINTED by print.py (a twelfth state) out of the translation. Not trusted: Lean checks it.
import Derived.Test.YtnephcecobocdaaWTab
import Derived.Test.YtnephcecobocdaaPA0
import Derived.Test.YtnephcecobocdaaSq
import Derived.Test.YtnephcecobocdaaPA2
import Derived.Test.YtnephcecobocdaaPA3
import Derived.Test.YtnephcecobocdaaPA5
import Derived.Test.YtnephcecobocdaaPA6
import Derived.Test.YtnephcecobocdaaPA7
namespace Go.Proofs.Ytnephcecobocdaa.PA
open Go.RowKit Go.Proofs.YtnephcecobocdaaW.PrintWords Go.Proofs.YtnephcecobocdaaW.PrintLast Go.Proofs.YtnephcecobocdaaW.PrintMore
attribute [local go_sem] max2_int min2_int max_two min_two max_three min_three max_four min_four   -- for this text's walks alone
set_option linter.unusedVariables false
set_option linter.unusedSimpArgs false

attribute [local go_sem high] eqA26 eqA28
/-! ### lockgatelaw04_works: function 14 -/
def lockgatelaw04_works.f (k : Nat)  : Option (Bool) := (span_UAdd.f 1 2 3 18446744073709551613).bind fun bt149 => ((span_USub.f 5 9 1 6).bind fun bt152 => ((span_UOr.f k 1 5 2 3).bind fun bt155 => ((span_SAdd.f (-5) 1 2 3).bind fun bt158 => (if (bt149.1 == 4 && (bt149.2 == 18446744073709551615)) = true then ((span_UAll.f).bind fun bt161 => (if (bt152.1 == bt161.1 && (bt152.2 == bt161.2)) = true then (if (bt155.1 == 2 && (bt155.2 == 7)) = true then (some (bt158.1 == (-3) && (bt158.2 == 4))) else (some false)) else (some false))) else (some false)))))
theorem lockgatelaw04_works.mono : ∀ k, LeO (lockgatelaw04_works.f k ) (lockgatelaw04_works.f (k + 1) ) := by
 intro  k
 unfold lockgatelaw04_works.f
 repeat' first
  | (with_reducible exact span_UOr.mono _ _ _ _ _)
  | (with_reducible exact LeO.refl _)
  | (with_reducible exact LeO.none _)
  | (with_reducible refine LeO.ite ?_ ?_)
  | (with_reducible refine LeO.bind ?_ (fun _ => ?_))
  | exact span_UOr.mono _ _ _ _ _
  | exact LeO.none _
  | refine LeO.ite ?_ ?_
  | refine LeO.bind ?_ (fun _ => ?_)
def lockgatelaw04_works.T5 : Bool × List (List Nat × List Nat) := (true, [([], []), ([], []), ([0, 1], [0, 1]), ([2], [2]), ([3], [3]), ([3, 3], [3]), ([4, 5, 3], [3, 4, 5]), ([3, 6], [3, 6]), ([7, 5], [7]), ([8], [8]), ([8], [8]), ([9, 10, 8], [8, 9, 10]), ([8, 11], [8, 11]), ([12, 8], [12]), ([13], [13]), ([13], [13]), ([14, 15, 13], [13, 14, 15]), ([13, 16], [13, 16]), ([17, 13, 0, 1, 2, 3, 4, 5, 6, 7, 8, 9, 10, 11, 12, 13, 14, 15, 16, 17], [17])])
def lockgatelaw04_works.B5 : List Nat := [0, 0, 3, 7, 15, 15, 63, 127, 255, 511, 511, 2047, 4095, 8191, 16383, 16383, 65535, 131071, 262143]
theorem lockgatelaw04_works.tab5 : rtab .any (opsOf Try.f14 5) = lockgatelaw04_works.T5 := by kernel_rfl
theorem lockgatelaw04_works.bits5 : waitsOk lockgatelaw04_works.T5.2 lockgatelaw04_works.B5 = true := by kernel_rfl
set_option maxHeartbeats 8000000 in
set_option maxRecDepth 100000 in
theorem lockgatelaw04_works.calls (k : Nat)  (r : Bool) (w : World) (h : lockgatelaw04_works.f k  = some r) :
 Calls Try.prog 14 #[] w fun e w' => e = .returned (.bool r) ∧ Below w.heap.size w w' := by
 have hu26 := Try.underlying26
 have hu28 := Try.underlying28
 have HB := Aside0.mk (Below.refl w.heap.size w)
 have H : ((span_UAdd.f 1 2 3 18446744073709551613).bind fun bt149 => ((span_USub.f 5 9 1 6).bind fun bt152 => ((span_UOr.f k 1 5 2 3).bind fun bt155 => ((span_SAdd.f (-5) 1 2 3).bind fun bt158 => (if (bt149.1 == 4 && (bt149.2 == 18446744073709551615)) = true then ((span_UAll.f).bind fun bt161 => (if (bt152.1 == bt161.1 && (bt152.2 == bt161.2)) = true then (if (bt155.1 == 2 && (bt155.2 == 7)) = true then (some (bt158.1 == (-3) && (bt158.2 == 4))) else (some false)) else (some false))) else (some false)))))) = some r := h
 clear h
 replace H := Option.bind_eq_some_iff.mp H
 obtain ⟨⟨t149, t150⟩, A10, H⟩ := H
 replace H : ((span_USub.f 5 9 1 6).bind fun bt152 => ((span_UOr.f k 1 5 2 3).bind fun bt155 => ((span_SAdd.f (-5) 1 2 3).bind fun bt158 => (if (t149 == 4 && (t150 == 18446744073709551615)) = true then ((span_UAll.f).bind fun bt161 => (if (bt152.1 == bt161.1 && (bt152.2 == bt161.2)) = true then (if (bt155.1 == 2 && (bt155.2 == 7)) = true then (some (bt158.1 == (-3) && (bt158.2 == 4))) else (some false)) else (some false))) else (some false))))) = some r := H
 have A1 := Aside0.mk A10
 clear A10
 replace H := Option.bind_eq_some_iff.mp H
 obtain ⟨⟨t152, t153⟩, A20, H⟩ := H
 replace H : ((span_UOr.f k 1 5 2 3).bind fun bt155 => ((span_SAdd.f (-5) 1 2 3).bind fun bt158 => (if (t149 == 4 && (t150 == 18446744073709551615)) = true then ((span_UAll.f).bind fun bt161 => (if (t152 == bt161.1 && (t153 == bt161.2)) = true then (if (bt155.1 == 2 && (bt155.2 == 7)) = true then (some (bt158.1 == (-3) && (bt158.2 == 4))) else (some false)) else (some false))) else (some false)))) = some r := H
 have A2 := Aside0.mk A20
 clear A20
 replace H := Option.bind_eq_some_iff.mp H
 obtain ⟨⟨t155, t156⟩, A30, H⟩ := H
 replace H : ((span_SAdd.f (-5) 1 2 3).bind fun bt158 => (if (t149 == 4 && (t150 == 18446744073709551615)) = true then ((span_UAll.f).bind fun bt161 => (if (t152 == bt161.1 && (t153 == bt161.2)) = true then (if (t155 == 2 && (t156 == 7)) = true then (some (bt158.1 == (-3) && (bt158.2 == 4))) else (some false)) else (some false))) else (some false))) = some r := H
 have A3 := Aside0.mk A30
 clear A30
 replace H := Option.bind_eq_some_iff.mp H
 obtain ⟨⟨t158, t159⟩, A40, H⟩ := H
 replace H : (if (t149 == 4 && (t150 == 18446744073709551615)) = true then ((span_UAll.f).bind fun bt161 => (if (t152 == bt161.1 && (t153 == bt161.2)) = true then (if (t155 == 2 && (t156 == 7)) = true then (some (t158 == (-3) && (t159 == 4))) else (some false)) else (some false))) else (some false)) = some r := H
 have A4 := Aside0.mk A40
 clear A40
 by_cases c5 : (t149 == 4 && (t150 == 18446744073709551615)) = true
 ·rw [if_pos c5] at H
  have c5b0 : (t149 == 4 && (t150 == 18446744073709551615)) = true := c5
  (try (have c5b1 : decide (t149 = 4 && (t150 == 18446744073709551615)) = true := by simpa using c5))
  (try (have c5b2 : (t149 == 4 && (t150 == 18446744073709551615)) = true := by simpa using c5))
  clear c5
  replace H := Option.bind_eq_some_iff.mp H
  obtain ⟨⟨t161, t162⟩, A60, H⟩ := H
  replace H : (if (t152 == t161 && (t153 == t162)) = true then (if (t155 == 2 && (t156 == 7)) = true then (some (t158 == (-3) && (t159 == 4))) else (some false)) else (some false)) = some r := H
  have A6 := Aside0.mk A60
  clear A60
  by_cases c7 : (t152 == t161 && (t153 == t162)) = true
  ·rw [if_pos c7] at H
   have c7b0 : (t152 == t161 && (t153 == t162)) = true := c7
   (try (have c7b1 : decide (t152 = t161 && (t153 == t162)) = true := by simpa using c7))
   (try (have c7b2 : (t152 == t161 && (t153 == t162)) = true := by simpa using c7))
   clear c7
   by_cases c8 : (t155 == 2 && (t156 == 7)) = true
   ·rw [if_pos c8] at H
    have c8b0 : (t155 == 2 && (t156 == 7)) = true := c8
    (try (have c8b1 : decide (t155 = 2 && (t156 == 7)) = true := by simpa using c8))
    (try (have c8b2 : (t155 == 2 && (t156 == 7)) = true := by simpa using c8))
    clear c8
    obtain rfl := Option.some.inj H
    go_enter Try.func14, Try.ntmps14
    try go_wp2_with (first | ((with_reducible refine gate_callee (f := 43) rfl ?_); refine goesL_ (some 7) rfl rfl Try.func43 (by kernel_rfl) rfl #[.agg #[.int .u64 1, .int .u64 2], .agg #[.int .u64 3, .int .u64 18446744073709551613]] rfl (by (try simp only [List.map_toArray, List.map_cons, List.map_nil]); first | done | rfl) ?_; (with_reducible refine (span_UAdd.calls 1 2 3 18446744073709551613 t149 t150 _ A1.out).mono ?_); rintro e w9 ⟨rfl, hb⟩; refine ⟨_, rfl, ?_⟩; replace HB := bl_ hb; (try clear hb); (try clear hb2); (try clear hk); (try clear hi)) | ((with_reducible refine gate_dst (N := 1) rfl ?_); refine bx_ 1 #[.int .u64 0, .int .u64 0] 26 ?_; intro gb151 hg w10 BK151 hb; have GW151 := bg_ hg; have GE151 := GW151; replace HB := bl_ hb; clear hb hg; have hcz11_0 := c0_ BK151; have hcz11_1 := c1_ BK151; have hfz11_0 := fz_ BK151 0; have hfz11_1 := fz_ BK151 1) | ((with_reducible refine gate_callee (f := 44) rfl ?_); refine goesL_ (some 10) rfl rfl Try.func44 (by kernel_rfl) rfl #[.agg #[.int .u64 5, .int .u64 9], .agg #[.int .u64 1, .int .u64 6]] rfl (by (try simp only [List.map_toArray, List.map_cons, List.map_nil]); first | done | rfl) ?_; (with_reducible refine (span_USub.calls 5 9 1 6 t152 t153 _ A2.out).mono ?_); rintro e w12 ⟨rfl, hb⟩; refine ⟨_, rfl, ?_⟩; replace BK151 := Aside0.mk (blk_below (g := gb151) (o := .cells #[.int .u64 t149, .int .u64 t150] 26 (0, 0)) (by (with_reducible repeat (first | apply bN_ | apply bD_ | apply bA_)); refine blk_put (cs := #[.int .u64 t149, .int .u64 0]) ?_ 1 _ rfl; (with_reducible repeat (first | apply bN_ | apply bD_ | apply bA_)); refine blk_put (cs := #[.int .u64 0, .int .u64 0]) ?_ 0 _ rfl; exact bk_) hb); replace HB := bl_ hb; (try clear hb); (try clear hb2); (try clear hk); (try clear hi)) | ((with_reducible refine gate_dst (N := 2) rfl ?_); refine bx_ 2 #[.int .u64 0, .int .u64 0] 26 ?_; intro gb154 hg w13 BK154 hb; have GW154 := bg_ hg; have GE154 := GW154; have NB151_154 := bm_ hg BK151; have NB154_151 := bn_ hg BK151; replace BK151 := bb_ hb BK151; replace HB := bl_ hb; clear hb hg; have hnb14 := NB154_151.out; have hnc14 := NB151_154.out; have hcz15_0 := c0_ BK154; have hcz15_1 := c1_ BK154; have hfz15_0 := fz_ BK154 0; have hfz15_1 := fz_ BK154 1) | ((with_reducible refine gate_callee (f := 46) rfl ?_); refine goesL_ (some 13) rfl rfl Try.func46 (by kernel_rfl) rfl #[.agg #[.int .u64 1, .int .u64 5], .agg #[.int .u64 2, .int .u64 3]] rfl (by (try simp only [List.map_toArray, List.map_cons, List.map_nil]); first | done | rfl) ?_; (with_reducible refine (span_UOr.calls k 1 5 2 3 t155 t156 _ A3.out).mono ?_); rintro e w16 ⟨rfl, hb⟩; refine ⟨_, rfl, ?_⟩; replace BK151 := Aside0.mk (blk_below (g := gb151) (o := .cells #[.int .u64 t149, .int .u64 t150] 26 (0, 0)) (by (with_reducible repeat (first | apply bN_ | apply bD_ | apply bA_)); refine blk_far ?_ NB151_154.out _; (with_reducible repeat (first | apply bN_ | apply bD_ | apply bA_)); refine blk_far ?_ NB151_154.out _; exact bk_) hb); replace BK154 := Aside0.mk (blk_below (g := gb154) (o := .cells #[.int .u64 t152, .int .u64 t153] 26 (0, 0)) (by (with_reducible repeat (first | apply bN_ | apply bD_ | apply bA_)); refine blk_put (cs := #[.int .u64 t152, .int .u64 0]) ?_ 1 _ rfl; (with_reducible repeat (first | apply bN_ | apply bD_ | apply bA_)); refine blk_put (cs := #[.int .u64 0, .int .u64 0]) ?_ 0 _ rfl; exact bk_) hb); replace HB := bl_ hb; (try clear hb); (try clear hb2); (try clear hk); (try clear hi)) | ((with_reducible refine gate_dst (N := 3) rfl ?_); refine bx_ 3 #[.int .u64 0, .int .u64 0] 26 ?_; intro gb157 hg w17 BK157 hb; have GW157 := bg_ hg; have GE157 := GW157; have NB151_157 := bm_ hg BK151; have NB157_151 := bn_ hg BK151; have NB154_157 := bm_ hg BK154; have NB157_154 := bn_ hg BK154; replace BK151 := bb_ hb BK151; replace BK154 := bb_ hb BK154; replace HB := bl_ hb; clear hb hg; have hnb18 := NB157_151.out; have hnc18 := NB151_157.out; have hnb19 := NB157_154.out; have hnc19 := NB154_157.out; have hcz20_0 := c0_ BK157; have hcz20_1 := c1_ BK157; have hfz20_0 := fz_ BK157 0; have hfz20_1 := fz_ BK157 1) | ((with_reducible refine gate_callee (f := 19) rfl ?_); refine goesL_ (some 16) rfl rfl Try.func19 (by kernel_rfl) rfl #[.agg #[.int .i64 (-5), .int .i64 1], .agg #[.int .i64 2, .int .i64 3]] rfl (by (try simp only [List.map_toArray, List.map_cons, List.map_nil]); first | done | rfl) ?_; (with_reducible refine (span_SAdd.calls (-5) 1 2 3 t158 t159 _ A4.out).mono ?_); rintro e w21 ⟨rfl, hb⟩; refine ⟨_, rfl, ?_⟩; replace BK151 := Aside0.mk (blk_below (g := gb151) (o := .cells #[.int .u64 t149, .int .u64 t150] 26 (0, 0)) (by (with_reducible repeat (first | apply bN_ | apply bD_ | apply bA_)); refine blk_far ?_ NB151_157.out _; (with_reducible repeat (first | apply bN_ | apply bD_ | apply bA_)); refine blk_far ?_ NB151_157.out _; exact bk_) hb); replace BK154 := Aside0.mk (blk_below (g := gb154) (o := .cells #[.int .u64 t152, .int .u64 t153] 26 (0, 0)) (by (with_reducible repeat (first | apply bN_ | apply bD_ | apply bA_)); refine blk_far ?_ NB154_157.out _; (with_reducible repeat (first | apply bN_ | apply bD_ | apply bA_)); refine blk_far ?_ NB154_157.out _; exact bk_) hb); replace BK157 := Aside0.mk (blk_below (g := gb157) (o := .cells #[.int .u64 t155, .int .u64 t156] 26 (0, 0)) (by (with_reducible repeat (first | apply bN_ | apply bD_ | apply bA_)); refine blk_put (cs := #[.int .u64 t155, .int .u64 0]) ?_ 1 _ rfl; (with_reducible repeat (first | apply bN_ | apply bD_ | apply bA_)); refine blk_put (cs := #[.int .u64 0, .int .u64 0]) ?_ 0 _ rfl; exact bk_) hb); replace HB := bl_ hb; (try clear hb); (try clear hb2); (try clear hk); (try clear hi)) | ((with_reducible refine gate_dst (N := 4) rfl ?_); refine bx_ 4 #[.int .i64 0, .int .i64 0] 28 ?_; intro gb160 hg w22 BK160 hb; have GW160 := bg_ hg; have GE160 := GW160; have NB151_160 := bm_ hg BK151; have NB160_151 := bn_ hg BK151; have NB154_160 := bm_ hg BK154; have NB160_154 := bn_ hg BK154; have NB157_160 := bm_ hg BK157; have NB160_157 := bn_ hg BK157; replace BK151 := bb_ hb BK151; replace BK154 := bb_ hb BK154; replace BK157 := bb_ hb BK157; replace HB := bl_ hb; clear hb hg; have hnb23 := NB160_151.out; have hnc23 := NB151_160.out; have hnb24 := NB160_154.out; have hnc24 := NB154_160.out; have hnb25 := NB160_157.out; have hnc25 := NB157_160.out; have hcz26_0 := c0_ BK160; have hcz26_1 := c1_ BK160; have hfz26_0 := fz_ BK160 0; have hfz26_1 := fz_ BK160 1))
    have n0_ : Aside0 (((w22.setCell ⟨gb160, 0, none⟩ (.int .i64 t158)).setCell ⟨gb160, 1, none⟩ (.int .i64 t159)).heap[gb151]? = some (.cells #[.int .u64 t149, .int .u64 t150] 26 (0, 0))) := ⟨by (with_reducible repeat (first | apply bN_ | apply bD_ | apply bA_)); refine blk_far ?_ NB151_160.out _; (with_reducible repeat (first | apply bN_ | apply bD_ | apply bA_)); refine blk_far ?_ NB151_160.out _; exact bk_⟩
    have n1_ : Aside0 (((w22.setCell ⟨gb160, 0, none⟩ (.int .i64 t158)).setCell ⟨gb160, 1, none⟩ (.int .i64 t159)).heap[gb154]? = some (.cells #[.int .u64 t152, .int .u64 t153] 26 (0, 0))) := ⟨by (with_reducible repeat (first | apply bN_ | apply bD_ | apply bA_)); refine blk_far ?_ NB154_160.out _; (with_reducible repeat (first | apply bN_ | apply bD_ | apply bA_)); refine blk_far ?_ NB154_160.out _; exact bk_⟩
    have n2_ : Aside0 (((w22.setCell ⟨gb160, 0, none⟩ (.int .i64 t158)).setCell ⟨gb160, 1, none⟩ (.int .i64 t159)).heap[gb157]? = some (.cells #[.int .u64 t155, .int .u64 t156] 26 (0, 0))) := ⟨by (with_reducible repeat (first | apply bN_ | apply bD_ | apply bA_)); refine blk_far ?_ NB157_160.out _; (with_reducible repeat (first | apply bN_ | apply bD_ | apply bA_)); refine blk_far ?_ NB157_160.out _; exact bk_⟩
    have n3_ : Aside0 (((w22.setCell ⟨gb160, 0, none⟩ (.int .i64 t158)).setCell ⟨gb160, 1, none⟩ (.int .i64 t159)).heap[gb160]? = some (.cells #[.int .i64 t158, .int .i64 t159] 28 (0, 0))) := ⟨by (with_reducible repeat (first | apply bN_ | apply bD_ | apply bA_)); refine blk_put (cs := #[.int .i64 t158, .int .i64 0]) ?_ 1 _ rfl; (with_reducible repeat (first | apply bN_ | apply bD_ | apply bA_)); refine blk_put (cs := #[.int .i64 0, .int .i64 0]) ?_ 0 _ rfl; exact bk_⟩
    have n4_ : Aside0 (Below w.heap.size w ((w22.setCell ⟨gb160, 0, none⟩ (.int .i64 t158)).setCell ⟨gb160, 1, none⟩ (.int .i64 t159))) := ⟨by repeat (first | (with_reducible first | exact HB.out | apply lA_ | apply lN_ | apply lD_ | refine lS_ ?_ GE151.out | refine lS_ ?_ GE154.out | refine lS_ ?_ GE157.out | refine lS_ ?_ GE160.out) | exact HB.out)⟩
    (try clear BK151)
    (try clear BK154)
    (try clear BK157)
    (try clear BK160)
    (try clear HB)
    generalize ((w22.setCell ⟨gb160, 0, none⟩ (.int .i64 t158)).setCell ⟨gb160, 1, none⟩ (.int .i64 t159)) = w27 at n0_ n1_ n2_ n3_ n4_ ⊢
    have BK151 := n0_
    have BK154 := n1_
    have BK157 := n2_
    have BK160 := n3_
    have HB := n4_
    clear n0_ n1_ n2_ n3_ n4_
    replace BK151 := Aside0.mk (blk_drew BK151.out)
    replace BK154 := Aside0.mk (blk_drew BK154.out)
    replace BK157 := Aside0.mk (blk_drew BK157.out)
    replace BK160 := Aside0.mk (blk_drew BK160.out)
    replace HB := Aside0.mk (below_drew1 HB.out)
    refine start_ (n := 19) (S := fun w' => w'.cell? ⟨gb151, 0, none⟩ = some (.int .u64 t149) ∧ w'.cell? ⟨gb151, 1, none⟩ = some (.int .u64 t150) ∧ w'.cell? ⟨gb154, 0, none⟩ = some (.int .u64 t152) ∧ w'.cell? ⟨gb154, 1, none⟩ = some (.int .u64 t153) ∧ w'.cell? ⟨gb157, 0, none⟩ = some (.int .u64 t155) ∧ w'.cell? ⟨gb157, 1, none⟩ = some (.int .u64 t156) ∧ w'.cell? ⟨gb160, 0, none⟩ = some (.int .i64 t158) ∧ w'.cell? ⟨gb160, 1, none⟩ = some (.int .i64 t159)) (ds := []) #[n_,n_,n_,n_,n_,n_,n_,n_,n_,n_,n_,n_,n_,n_,n_,n_,n_,n_,n_] (by kernel_rfl) rfl rfl ⟨c0_ BK151, c1_ BK151, c0_ BK154, c1_ BK154, c0_ BK157, c1_ BK157, c0_ BK160, c1_ BK160⟩ (fun hHeld => ?_); refine with_tabW lockgatelaw04_works.tab5 lockgatelaw04_works.bits5 (fun HT_ HW_ => ?_)
    generalize w27.drew = w28 at BK151 BK154 BK157 BK160 HB hHeld ⊢
    refine pq_ 1 18 #[n_,y_,n_,n_,n_,n_,n_,n_,n_,n_,n_,n_,n_,n_,n_,n_,n_,n_,n_] ?_
    refine tq2_ 0 17 #[y_,y_,n_,n_,n_,n_,n_,n_,n_,n_,n_,n_,n_,n_,n_,n_,n_,n_,n_] hHeld ?_
    refine pq_ 2 19 #[y_,y_,y_,n_,n_,n_,n_,n_,n_,n_,n_,n_,n_,n_,n_,n_,n_,n_,n_] ?_
    refine pq_ 3 20 #[y_,y_,y_,y_,n_,n_,n_,n_,n_,n_,n_,n_,n_,n_,n_,n_,n_,n_,n_] ?_
    refine tq2_ 4 21 #[y_,y_,y_,y_,y_,n_,n_,n_,n_,n_,n_,n_,n_,n_,n_,n_,n_,n_,n_] hHeld ?_
    refine one_ (i := 5) (N := some 22) #[y_,y_,y_,y_,y_,y_,n_,n_,n_,n_,n_,n_,n_,n_,n_,n_,n_,n_,n_] rfl rfl (one_of HT_.out (by kernel_rfl)) (by decide) (fun K hK => ?_)
    refine goes_ Try.func72 (by kernel_rfl) rfl #[] (by rfl) rfl rfl (by (try simp only [List.map_toArray, List.map_cons, List.map_nil]); first | done | rfl) ?_
    with_reducible refine (span_UAll.calls  t161 t162 _ A6.out).mono ?_
    rintro e w29 ⟨rfl, hb⟩
    refine ⟨_, rfl, ?_⟩
    replace BK151 := bb_ hb BK151
    replace BK154 := bb_ hb BK154
    replace BK157 := bb_ hb BK157
    replace BK160 := bb_ hb BK160
    replace HB := bl_ hb
    try clear hb
    refine hK.out _ _ ⟨c0_ BK151, c1_ BK151, c0_ BK154, c1_ BK154, c0_ BK157, c1_ BK157, c0_ BK160, c1_ BK160⟩ (fun hHeld => ?_)
    clear hK K
    refine norm_ (a' := ?_) ?_ ?_
    rotate_left
    ·show Act.put _ (some 22) _ = _
     simp only [Act.put, s1_, s2_, s3_, i64_w, i32_w]
     rfl
    refine pq_ 6 23 #[y_,y_,y_,y_,y_,y_,y_,n_,n_,n_,n_,n_,n_,n_,n_,n_,n_,n_,n_] ?_
    refine pq_ 7 24 #[y_,y_,y_,y_,y_,y_,y_,y_,n_,n_,n_,n_,n_,n_,n_,n_,n_,n_,n_] ?_
    refine pq_ 8 25 #[y_,y_,y_,y_,y_,y_,y_,y_,y_,n_,n_,n_,n_,n_,n_,n_,n_,n_,n_] ?_
    refine pq_ 10 27 #[y_,y_,y_,y_,y_,y_,y_,y_,y_,n_,y_,n_,n_,n_,n_,n_,n_,n_,n_] ?_
    refine tq2_ 9 26 #[y_,y_,y_,y_,y_,y_,y_,y_,y_,y_,y_,n_,n_,n_,n_,n_,n_,n_,n_] hHeld ?_
    refine pq_ 11 28 #[y_,y_,y_,y_,y_,y_,y_,y_,y_,y_,y_,y_,n_,n_,n_,n_,n_,n_,n_] ?_
    refine pq_ 12 29 #[y_,y_,y_,y_,y_,y_,y_,y_,y_,y_,y_,y_,y_,n_,n_,n_,n_,n_,n_] ?_
    refine pq_ 13 30 #[y_,y_,y_,y_,y_,y_,y_,y_,y_,y_,y_,y_,y_,y_,n_,n_,n_,n_,n_] ?_
    refine pq_ 15 32 #[y_,y_,y_,y_,y_,y_,y_,y_,y_,y_,y_,y_,y_,y_,n_,y_,n_,n_,n_] ?_
    refine tq2_ 14 31 #[y_,y_,y_,y_,y_,y_,y_,y_,y_,y_,y_,y_,y_,y_,y_,y_,n_,n_,n_] hHeld ?_
    refine pq_ 16 33 #[y_,y_,y_,y_,y_,y_,y_,y_,y_,y_,y_,y_,y_,y_,y_,y_,y_,n_,n_] ?_
    refine pq_ 17 34 #[y_,y_,y_,y_,y_,y_,y_,y_,y_,y_,y_,y_,y_,y_,y_,y_,y_,y_,n_] ?_
    refine pq_ 18 0 #[y_,y_,y_,y_,y_,y_,y_,y_,y_,y_,y_,y_,y_,y_,y_,y_,y_,y_,y_] ?_
    refine done_ (done_of HT_.out (by kernel_rfl)) ?_
    try go_wp2
    go_ret
    exact ⟨vv_, bz_⟩
   ·rw [if_neg c8] at H
    have c8b0 : (t155 == 2 && (t156 == 7)) = false := by simpa using c8
    (try (have c8b1 : decide (t155 = 2 && (t156 == 7)) = false := by simpa using c8))
    (try (have c8b2 : (t155 == 2 && (t156 == 7)) = false := by simpa using c8))
    (try (have c8b3 : ¬ (t155 = 2 && (t156 == 7)) := by simpa using c8))
    clear c8
    obtain rfl := Option.some.inj H
    go_enter Try.func14, Try.ntmps14
    try go_wp2_with (first | ((with_reducible refine gate_callee (f := 43) rfl ?_); refine goesL_ (some 7) rfl rfl Try.func43 (by kernel_rfl) rfl #[.agg #[.int .u64 1, .int .u64 2], .agg #[.int .u64 3, .int .u64 18446744073709551613]] rfl (by (try simp only [List.map_toArray, List.map_cons, List.map_nil]); first | done | rfl) ?_; (with_reducible refine (span_UAdd.calls 1 2 3 18446744073709551613 t149 t150 _ A1.out).mono ?_); rintro e w30 ⟨rfl, hb⟩; refine ⟨_, rfl, ?_⟩; replace HB := bl_ hb; (try clear hb); (try clear hb2); (try clear hk); (try clear hi)) | ((with_reducible refine gate_dst (N := 1) rfl ?_); refine bx_ 1 #[.int .u64 0, .int .u64 0] 26 ?_; intro gb151 hg w31 BK151 hb; have GW151 := bg_ hg; have GE151 := GW151; replace HB := bl_ hb; clear hb hg; have hcz32_0 := c0_ BK151; have hcz32_1 := c1_ BK151; have hfz32_0 := fz_ BK151 0; have hfz32_1 := fz_ BK151 1) | ((with_reducible refine gate_callee (f := 44) rfl ?_); refine goesL_ (some 10) rfl rfl Try.func44 (by kernel_rfl) rfl #[.agg #[.int .u64 5, .int .u64 9], .agg #[.int .u64 1, .int .u64 6]] rfl (by (try simp only [List.map_toArray, List.map_cons, List.map_nil]); first | done | rfl) ?_; (with_reducible refine (span_USub.calls 5 9 1 6 t152 t153 _ A2.out).mono ?_); rintro e w33 ⟨rfl, hb⟩; refine ⟨_, rfl, ?_⟩; replace BK151 := Aside0.mk (blk_below (g := gb151) (o := .cells #[.int .u64 t149, .int .u64 t150] 26 (0, 0)) (by (with_reducible repeat (first | apply bN_ | apply bD_ | apply bA_)); refine blk_put (cs := #[.int .u64 t149, .int .u64 0]) ?_ 1 _ rfl; (with_reducible repeat (first | apply bN_ | apply bD_ | apply bA_)); refine blk_put (cs := #[.int .u64 0, .int .u64 0]) ?_ 0 _ rfl; exact bk_) hb); replace HB := bl_ hb; (try clear hb); (try clear hb2); (try clear hk); (try clear hi)) | ((with_reducible refine gate_dst (N := 2) rfl ?_); refine bx_ 2 #[.int .u64 0, .int .u64 0] 26 ?_; intro gb154 hg w34 BK154 hb; have GW154 := bg_ hg; have GE154 := GW154; have NB151_154 := bm_ hg BK151; have NB154_151 := bn_ hg BK151; replace BK151 := bb_ hb BK151; replace HB := bl_ hb; clear hb hg; have hnb35 := NB154_151.out; have hnc35 := NB151_154.out; have hcz36_0 := c0_ BK154; have hcz36_1 := c1_ BK154; have hfz36_0 := fz_ BK154 0; have hfz36_1 := fz_ BK154 1) | ((with_reducible refine gate_callee (f := 46) rfl ?_); refine goesL_ (some 13) rfl rfl Try.func46 (by kernel_rfl) rfl #[.agg #[.int .u64 1, .int .u64 5], .agg #[.int .u64 2, .int .u64 3]] rfl (by (try simp only [List.map_toArray, List.map_cons, List.map_nil]); first | done | rfl) ?_; (with_reducible refine (span_UOr.calls k 1 5 2 3 t155 t156 _ A3.out).mono ?_); rintro e w37 ⟨rfl, hb⟩; refine ⟨_, rfl, ?_⟩; replace BK151 := Aside0.mk (blk_below (g := gb151) (o := .cells #[.int .u64 t149, .int .u64 t150] 26 (0, 0)) (by (with_reducible repeat (first | apply bN_ | apply bD_ | apply bA_)); refine blk_far ?_ NB151_154.out _; (with_reducible repeat (first | apply bN_ | apply bD_ | apply bA_)); refine blk_far ?_ NB151_154.out _; exact bk_) hb); replace BK154 := Aside0.mk (blk_below (g := gb154) (o := .cells #[.int .u64 t152, .int .u64 t153] 26 (0, 0)) (by (with_reducible repeat (first | apply bN_ | apply bD_ | apply bA_)); refine blk_put (cs := #[.int .u64 t152, .int .u64 0]) ?_ 1 _ rfl; (with_reducible repeat (first | apply bN_ | apply bD_ | apply bA_)); refine blk_put (cs := #[.int .u64 0, .int .u64 0]) ?_ 0 _ rfl; exact bk_) hb); replace HB := bl_ hb; (try clear hb); (try clear hb2); (try clear hk); (try clear hi)) | ((with_reducible refine gate_dst (N := 3) rfl ?_); refine bx_ 3 #[.int .u64 0, .int .u64 0] 26 ?_; intro gb157 hg w38 BK157 hb; have GW157 := bg_ hg; have GE157 := GW157; have NB151_157 := bm_ hg BK151; have NB157_151 := bn_ hg BK151; have NB154_157 := bm_ hg BK154; have NB157_154 := bn_ hg BK154; replace BK151 := bb_ hb BK151; replace BK154 := bb_ hb BK154; replace HB := bl_ hb; clear hb hg; have hnb39 := NB157_151.out; have hnc39 := NB151_157.out; have hnb40 := NB157_154.out; have hnc40 := NB154_157.out; have hcz41_0 := c0_ BK157; have hcz41_1 := c1_ BK157; have hfz41_0 := fz_ BK157 0; have hfz41_1 := fz_ BK157 1) | ((with_reducible refine gate_callee (f := 19) rfl ?_); refine goesL_ (some 16) rfl rfl Try.func19 (by kernel_rfl) rfl #[.agg #[.int .i64 (-5), .int .i64 1], .agg #[.int .i64 2, .int .i64 3]] rfl (by (try simp only [List.map_toArray, List.map_cons, List.map_nil]); first | done | rfl) ?_; (with_reducible refine (span_SAdd.calls (-5) 1 2 3 t158 t159 _ A4.out).mono ?_); rintro e w42 ⟨rfl, hb⟩; refine ⟨_, rfl, ?_⟩; replace BK151 := Aside0.mk (blk_below (g := gb151) (o := .cells #[.int .u64 t149, .int .u64 t150] 26 (0, 0)) (by (with_reducible repeat (first | apply bN_ | apply bD_ | apply bA_)); refine blk_far ?_ NB151_157.out _; (with_reducible repeat (first | apply bN_ | apply bD_ | apply bA_)); refine blk_far ?_ NB151_157.out _; exact bk_) hb); replace BK154 := Aside0.mk (blk_below (g := gb154) (o := .cells #[.int .u64 t152, .int .u64 t153] 26 (0, 0)) (by (with_reducible repeat (first | apply bN_ | apply bD_ | apply bA_)); refine blk_far ?_ NB154_157.out _; (with_reducible repeat (first | apply bN_ | apply bD_ | apply bA_)); refine blk_far ?_ NB154_157.out _; exact bk_) hb); replace BK157 := Aside0.mk (blk_below (g := gb157) (o := .cells #[.int .u64 t155, .int .u64 t156] 26 (0, 0)) (by (with_reducible repeat (first | apply bN_ | apply bD_ | apply bA_)); refine blk_put (cs := #[.int .u64 t155, .int .u64 0]) ?_ 1 _ rfl; (with_reducible repeat (first | apply bN_ | apply bD_ | apply bA_)); refine blk_put (cs := #[.int .u64 0, .int .u64 0]) ?_ 0 _ rfl; exact bk_) hb); replace HB := bl_ hb; (try clear hb); (try clear hb2); (try clear hk); (try clear hi)) | ((with_reducible refine gate_dst (N := 4) rfl ?_); refine bx_ 4 #[.int .i64 0, .int .i64 0] 28 ?_; intro gb160 hg w43 BK160 hb; have GW160 := bg_ hg; have GE160 := GW160; have NB151_160 := bm_ hg BK151; have NB160_151 := bn_ hg BK151; have NB154_160 := bm_ hg BK154; have NB160_154 := bn_ hg BK154; have NB157_160 := bm_ hg BK157; have NB160_157 := bn_ hg BK157; replace BK151 := bb_ hb BK151; replace BK154 := bb_ hb BK154; replace BK157 := bb_ hb BK157; replace HB := bl_ hb; clear hb hg; have hnb44 := NB160_151.out; have hnc44 := NB151_160.out; have hnb45 := NB160_154.out; have hnc45 := NB154_160.out; have hnb46 := NB160_157.out; have hnc46 := NB157_160.out; have hcz47_0 := c0_ BK160; have hcz47_1 := c1_ BK160; have hfz47_0 := fz_ BK160 0; have hfz47_1 := fz_ BK160 1))
    have n0_ : Aside0 (((w43.setCell ⟨gb160, 0, none⟩ (.int .i64 t158)).setCell ⟨gb160, 1, none⟩ (.int .i64 t159)).heap[gb151]? = some (.cells #[.int .u64 t149, .int .u64 t150] 26 (0, 0))) := ⟨by (with_reducible repeat (first | apply bN_ | apply bD_ | apply bA_)); refine blk_far ?_ NB151_160.out _; (with_reducible repeat (first | apply bN_ | apply bD_ | apply bA_)); refine blk_far ?_ NB151_160.out _; exact bk_⟩
    have n1_ : Aside0 (((w43.setCell ⟨gb160, 0, none⟩ (.int .i64 t158)).setCell ⟨gb160, 1, none⟩ (.int .i64 t159)).heap[gb154]? = some (.cells #[.int .u64 t152, .int .u64 t153] 26 (0, 0))) := ⟨by (with_reducible repeat (first | apply bN_ | apply bD_ | apply bA_)); refine blk_far ?_ NB154_160.out _; (with_reducible repeat (first | apply bN_ | apply bD_ | apply bA_)); refine blk_far ?_ NB154_160.out _; exact bk_⟩
    have n2_ : Aside0 (((w43.setCell ⟨gb160, 0, none⟩ (.int .i64 t158)).setCell ⟨gb160, 1, none⟩ (.int .i64 t159)).heap[gb157]? = some (.cells #[.int .u64 t155, .int .u64 t156] 26 (0, 0))) := ⟨by (with_reducible repeat (first | apply bN_ | apply bD_ | apply bA_)); refine blk_far ?_ NB157_160.out _; (with_reducible repeat (first | apply bN_ | apply bD_ | apply bA_)); refine blk_far ?_ NB157_160.out _; exact bk_⟩
    have n3_ : Aside0 (((w43.setCell ⟨gb160, 0, none⟩ (.int .i64 t158)).setCell ⟨gb160, 1, none⟩ (.int .i64 t159)).heap[gb160]? = some (.cells #[.int .i64 t158, .int .i64 t159] 28 (0, 0))) := ⟨by (with_reducible repeat (first | apply bN_ | apply bD_ | apply bA_)); refine blk_put (cs := #[.int .i64 t158, .int .i64 0]) ?_ 1 _ rfl; (with_reducible repeat (first | apply bN_ | apply bD_ | apply bA_)); refine blk_put (cs := #[.int .i64 0, .int .i64 0]) ?_ 0 _ rfl; exact bk_⟩
    have n4_ : Aside0 (Below w.heap.size w ((w43.setCell ⟨gb160, 0, none⟩ (.int .i64 t158)).setCell ⟨gb160, 1, none⟩ (.int .i64 t159))) := ⟨by repeat (first | (with_reducible first | exact HB.out | apply lA_ | apply lN_ | apply lD_ | refine lS_ ?_ GE151.out | refine lS_ ?_ GE154.out | refine lS_ ?_ GE157.out | refine lS_ ?_ GE160.out) | exact HB.out)⟩
    (try clear BK151)
    (try clear BK154)
    (try clear BK157)
    (try clear BK160)
    (try clear HB)
    generalize ((w43.setCell ⟨gb160, 0, none⟩ (.int .i64 t158)).setCell ⟨gb160, 1, none⟩ (.int .i64 t159)) = w48 at n0_ n1_ n2_ n3_ n4_ ⊢
    have BK151 := n0_
    have BK154 := n1_
    have BK157 := n2_
    have BK160 := n3_
    have HB := n4_
    clear n0_ n1_ n2_ n3_ n4_
    replace BK151 := Aside0.mk (blk_drew BK151.out)
    replace BK154 := Aside0.mk (blk_drew BK154.out)
    replace BK157 := Aside0.mk (blk_drew BK157.out)
    replace BK160 := Aside0.mk (blk_drew BK160.out)
    replace HB := Aside0.mk (below_drew1 HB.out)
    refine start_ (n := 19) (S := fun w' => w'.cell? ⟨gb151, 0, none⟩ = some (.int .u64 t149) ∧ w'.cell? ⟨gb151, 1, none⟩ = some (.int .u64 t150) ∧ w'.cell? ⟨gb154, 0, none⟩ = some (.int .u64 t152) ∧ w'.cell? ⟨gb154, 1, none⟩ = some (.int .u64 t153) ∧ w'.cell? ⟨gb157, 0, none⟩ = some (.int .u64 t155) ∧ w'.cell? ⟨gb157, 1, none⟩ = some (.int .u64 t156)) (ds := []) #[n_,n_,n_,n_,n_,n_,n_,n_,n_,n_,n_,n_,n_,n_,n_,n_,n_,n_,n_] (by kernel_rfl) rfl rfl ⟨c0_ BK151, c1_ BK151, c0_ BK154, c1_ BK154, c0_ BK157, c1_ BK157⟩ (fun hHeld => ?_); refine with_tabW lockgatelaw04_works.tab5 lockgatelaw04_works.bits5 (fun HT_ HW_ => ?_)
    generalize w48.drew = w49 at BK151 BK154 BK157 BK160 HB hHeld ⊢
    refine pq_ 1 18 #[n_,y_,n_,n_,n_,n_,n_,n_,n_,n_,n_,n_,n_,n_,n_,n_,n_,n_,n_] ?_
    refine tq3_ 0 17 #[y_,y_,n_,n_,n_,n_,n_,n_,n_,n_,n_,n_,n_,n_,n_,n_,n_,n_,n_] hHeld ?_
    refine pq_ 2 19 #[y_,y_,y_,n_,n_,n_,n_,n_,n_,n_,n_,n_,n_,n_,n_,n_,n_,n_,n_] ?_
    refine pq_ 3 20 #[y_,y_,y_,y_,n_,n_,n_,n_,n_,n_,n_,n_,n_,n_,n_,n_,n_,n_,n_] ?_
    refine tq3_ 4 21 #[y_,y_,y_,y_,y_,n_,n_,n_,n_,n_,n_,n_,n_,n_,n_,n_,n_,n_,n_] hHeld ?_
    refine one_ (i := 5) (N := some 22) #[y_,y_,y_,y_,y_,y_,n_,n_,n_,n_,n_,n_,n_,n_,n_,n_,n_,n_,n_] rfl rfl (one_of HT_.out (by kernel_rfl)) (by decide) (fun K hK => ?_)
    refine goes_ Try.func72 (by kernel_rfl) rfl #[] (by rfl) rfl rfl (by (try simp only [List.map_toArray, List.map_cons, List.map_nil]); first | done | rfl) ?_
    with_reducible refine (span_UAll.calls  t161 t162 _ A6.out).mono ?_
    rintro e w50 ⟨rfl, hb⟩
    refine ⟨_, rfl, ?_⟩
    replace BK151 := bb_ hb BK151
    replace BK154 := bb_ hb BK154
    replace BK157 := bb_ hb BK157
    replace BK160 := bb_ hb BK160
    replace HB := bl_ hb
    try clear hb
    refine hK.out _ _ ⟨c0_ BK151, c1_ BK151, c0_ BK154, c1_ BK154, c0_ BK157, c1_ BK157⟩ (fun hHeld => ?_)
    clear hK K
    refine norm_ (a' := ?_) ?_ ?_
    rotate_left
    ·show Act.put _ (some 22) _ = _
     simp only [Act.put, s1_, s2_, s3_, i64_w, i32_w]
     rfl
    refine pq_ 6 23 #[y_,y_,y_,y_,y_,y_,y_,n_,n_,n_,n_,n_,n_,n_,n_,n_,n_,n_,n_] ?_
    refine pq_ 7 24 #[y_,y_,y_,y_,y_,y_,y_,y_,n_,n_,n_,n_,n_,n_,n_,n_,n_,n_,n_] ?_
    refine pq_ 8 25 #[y_,y_,y_,y_,y_,y_,y_,y_,y_,n_,n_,n_,n_,n_,n_,n_,n_,n_,n_] ?_
    refine pq_ 10 27 #[y_,y_,y_,y_,y_,y_,y_,y_,y_,n_,y_,n_,n_,n_,n_,n_,n_,n_,n_] ?_
    refine tq3_ 9 26 #[y_,y_,y_,y_,y_,y_,y_,y_,y_,y_,y_,n_,n_,n_,n_,n_,n_,n_,n_] hHeld ?_
    refine pq_ 11 28 #[y_,y_,y_,y_,y_,y_,y_,y_,y_,y_,y_,y_,n_,n_,n_,n_,n_,n_,n_] ?_
    refine pq_ 12 29 #[y_,y_,y_,y_,y_,y_,y_,y_,y_,y_,y_,y_,y_,n_,n_,n_,n_,n_,n_] ?_
    refine pq_ 13 30 #[y_,y_,y_,y_,y_,y_,y_,y_,y_,y_,y_,y_,y_,y_,n_,n_,n_,n_,n_] ?_
    refine pu_ 14 31 #[y_,y_,y_,y_,y_,y_,y_,y_,y_,y_,y_,y_,y_,y_,y_,n_,n_,n_,n_] ?_
    refine pu_ 15 32 #[y_,y_,y_,y_,y_,y_,y_,y_,y_,y_,y_,y_,y_,y_,y_,y_,n_,n_,n_] ?_
    refine pu_ 16 33 #[y_,y_,y_,y_,y_,y_,y_,y_,y_,y_,y_,y_,y_,y_,y_,y_,y_,n_,n_] ?_
    refine pq_ 17 34 #[y_,y_,y_,y_,y_,y_,y_,y_,y_,y_,y_,y_,y_,y_,y_,y_,y_,y_,n_] ?_
    refine pq_ 18 0 #[y_,y_,y_,y_,y_,y_,y_,y_,y_,y_,y_,y_,y_,y_,y_,y_,y_,y_,y_] ?_
    refine done_ (done_of HT_.out (by kernel_rfl)) ?_
    try go_wp2
    go_ret
    exact ⟨vv_, bz_⟩
  ·rw [if_neg c7] at H
   have c7b0 : (t152 == t161 && (t153 == t162)) = false := by simpa using c7
   (try (have c7b1 : decide (t152 = t161 && (t153 == t162)) = false := by simpa using c7))
   (try (have c7b2 : (t152 == t161 && (t153 == t162)) = false := by simpa using c7))
   (try (have c7b3 : ¬ (t152 = t161 && (t153 == t162)) := by simpa using c7))
   clear c7
   obtain rfl := Option.some.inj H
   go_enter Try.func14, Try.ntmps14
   try go_wp2_with (first | ((with_reducible refine gate_callee (f := 43) rfl ?_); refine goesL_ (some 7) rfl rfl Try.func43 (by kernel_rfl) rfl #[.agg #[.int .u64 1, .int .u64 2], .agg #[.int .u64 3, .int .u64 18446744073709551613]] rfl (by (try simp only [List.map_toArray, List.map_cons, List.map_nil]); first | done | rfl) ?_; (with_reducible refine (span_UAdd.calls 1 2 3 18446744073709551613 t149 t150 _ A1.out).mono ?_); rintro e w51 ⟨rfl, hb⟩; refine ⟨_, rfl, ?_⟩; replace HB := bl_ hb; (try clear hb); (try clear hb2); (try clear hk); (try clear hi)) | ((with_reducible refine gate_dst (N := 1) rfl ?_); refine bx_ 1 #[.int .u64 0, .int .u64 0] 26 ?_; intro gb151 hg w52 BK151 hb; have GW151 := bg_ hg; have GE151 := GW151; replace HB := bl_ hb; clear hb hg; have hcz53_0 := c0_ BK151; have hcz53_1 := c1_ BK151; have hfz53_0 := fz_ BK151 0; have hfz53_1 := fz_ BK151 1) | ((with_reducible refine gate_callee (f := 44) rfl ?_); refine goesL_ (some 10) rfl rfl Try.func44 (by kernel_rfl) rfl #[.agg #[.int .u64 5, .int .u64 9], .agg #[.int .u64 1, .int .u64 6]] rfl (by (try simp only [List.map_toArray, List.map_cons, List.map_nil]); first | done | rfl) ?_; (with_reducible refine (span_USub.calls 5 9 1 6 t152 t153 _ A2.out).mono ?_); rintro e w54 ⟨rfl, hb⟩; refine ⟨_, rfl, ?_⟩; replace BK151 := Aside0.mk (blk_below (g := gb151) (o := .cells #[.int .u64 t149, .int .u64 t150] 26 (0, 0)) (by (with_reducible repeat (first | apply bN_ | apply bD_ | apply bA_)); refine blk_put (cs := #[.int .u64 t149, .int .u64 0]) ?_ 1 _ rfl; (with_reducible repeat (first | apply bN_ | apply bD_ | apply bA_)); refine blk_put (cs := #[.int .u64 0, .int .u64 0]) ?_ 0 _ rfl; exact bk_) hb); replace HB := bl_ hb; (try clear hb); (try clear hb2); (try clear hk); (try clear hi)) | ((with_reducible refine gate_dst (N := 2) rfl ?_); refine bx_ 2 #[.int .u64 0, .int .u64 0] 26 ?_; intro gb154 hg w55 BK154 hb; have GW154 := bg_ hg; have GE154 := GW154; have NB151_154 := bm_ hg BK151; have NB154_151 := bn_ hg BK151; replace BK151 := bb_ hb BK151; replace HB := bl_ hb; clear hb hg; have hnb56 := NB154_151.out; have hnc56 := NB151_154.out; have hcz57_0 := c0_ BK154; have hcz57_1 := c1_ BK154; have hfz57_0 := fz_ BK154 0; have hfz57_1 := fz_ BK154 1) | ((with_reducible refine gate_callee (f := 46) rfl ?_); refine goesL_ (some 13) rfl rfl Try.func46 (by kernel_rfl) rfl #[.agg #[.int .u64 1, .int .u64 5], .agg #[.int .u64 2, .int .u64 3]] rfl (by (try simp only [List.map_toArray, List.map_cons, List.map_nil]); first | done | rfl) ?_; (with_reducible refine (span_UOr.calls k 1 5 2 3 t155 t156 _ A3.out).mono ?_); rintro e w58 ⟨rfl, hb⟩; refine ⟨_, rfl, ?_⟩; replace BK151 := Aside0.mk (blk_below (g := gb151) (o := .cells #[.int .u64 t149, .int .u64 t150] 26 (0, 0)) (by (with_reducible repeat (first | apply bN_ | apply bD_ | apply bA_)); refine blk_far ?_ NB151_154.out _; (with_reducible repeat (first | apply bN_ | apply bD_ | apply bA_)); refine blk_far ?_ NB151_154.out _; exact bk_) hb); replace BK154 := Aside0.mk (blk_below (g := gb154) (o := .cells #[.int .u64 t152, .int .u64 t153] 26 (0, 0)) (by (with_reducible repeat (first | apply bN_ | apply bD_ | apply bA_)); refine blk_put (cs := #[.int .u64 t152, .int .u64 0]) ?_ 1 _ rfl; (with_reducible repeat (first | apply bN_ | apply bD_ | apply bA_)); refine blk_put (cs := #[.int .u64 0, .int .u64 0]) ?_ 0 _ rfl; exact bk_) hb); replace HB := bl_ hb; (try clear hb); (try clear hb2); (try clear hk); (try clear hi)) | ((with_reducible refine gate_dst (N := 3) rfl ?_); refine bx_ 3 #[.int .u64 0, .int .u64 0] 26 ?_; intro gb157 hg w59 BK157 hb; have GW157 := bg_ hg; have GE157 := GW157; have NB151_157 := bm_ hg BK151; have NB157_151 := bn_ hg BK151; have NB154_157 := bm_ hg BK154; have NB157_154 := bn_ hg BK154; replace BK151 := bb_ hb BK151; replace BK154 := bb_ hb BK154; replace HB := bl_ hb; clear hb hg; have hnb60 := NB157_151.out; have hnc60 := NB151_157.out; have hnb61 := NB157_154.out; have hnc61 := NB154_157.out; have hcz62_0 := c0_ BK157; have hcz62_1 := c1_ BK157; have hfz62_0 := fz_ BK157 0; have hfz62_1 := fz_ BK157 1) | ((with_reducible refine gate_callee (f := 19) rfl ?_); refine goesL_ (some 16) rfl rfl Try.func19 (by kernel_rfl) rfl #[.agg #[.int .i64 (-5), .int .i64 1], .agg #[.int .i64 2, .int .i64 3]] rfl (by (try simp only [List.map_toArray, List.map_cons, List.map_nil]); first | done | rfl) ?_; (with_reducible refine (span_SAdd.calls (-5) 1 2 3 t158 t159 _ A4.out).mono ?_); rintro e w63 ⟨rfl, hb⟩; refine ⟨_, rfl, ?_⟩; replace BK151 := Aside0.mk (blk_below (g := gb151) (o := .cells #[.int .u64 t149, .int .u64 t150] 26 (0, 0)) (by (with_reducible repeat (first | apply bN_ | apply bD_ | apply bA_)); refine blk_far ?_ NB151_157.out _; (with_reducible repeat (first | apply bN_ | apply bD_ | apply bA_)); refine blk_far ?_ NB151_157.out _; exact bk_) hb); replace BK154 := Aside0.mk (blk_below (g := gb154) (o := .cells #[.int .u64 t152, .int .u64 t153] 26 (0, 0)) (by (with_reducible repeat (first | apply bN_ | apply bD_ | apply bA_)); refine blk_far ?_ NB154_157.out _; (with_reducible repeat (first | apply bN_ | apply bD_ | apply bA_)); refine blk_far ?_ NB154_157.out _; exact bk_) hb); replace BK157 := Aside0.mk (blk_below (g := gb157) (o := .cells #[.int .u64 t155, .int .u64 t156] 26 (0, 0)) (by (with_reducible repeat (first | apply bN_ | apply bD_ | apply bA_)); refine blk_put (cs := #[.int .u64 t155, .int .u64 0]) ?_ 1 _ rfl; (with_reducible repeat (first | apply bN_ | apply bD_ | apply bA_)); refine blk_put (cs := #[.int .u64 0, .int .u64 0]) ?_ 0 _ rfl; exact bk_) hb); replace HB := bl_ hb; (try clear hb); (try clear hb2); (try clear hk); (try clear hi)) | ((with_reducible refine gate_dst (N := 4) rfl ?_); refine bx_ 4 #[.int .i64 0, .int .i64 0] 28 ?_; intro gb160 hg w64 BK160 hb; have GW160 := bg_ hg; have GE160 := GW160; have NB151_160 := bm_ hg BK151; have NB160_151 := bn_ hg BK151; have NB154_160 := bm_ hg BK154; have NB160_154 := bn_ hg BK154; have NB157_160 := bm_ hg BK157; have NB160_157 := bn_ hg BK157; replace BK151 := bb_ hb BK151; replace BK154 := bb_ hb BK154; replace BK157 := bb_ hb BK157; replace HB := bl_ hb; clear hb hg; have hnb65 := NB160_151.out; have hnc65 := NB151_160.out; have hnb66 := NB160_154.out; have hnc66 := NB154_160.out; have hnb67 := NB160_157.out; have hnc67 := NB157_160.out; have hcz68_0 := c0_ BK160; have hcz68_1 := c1_ BK160; have hfz68_0 := fz_ BK160 0; have hfz68_1 := fz_ BK160 1))
   have n0_ : Aside0 (((w64.setCell ⟨gb160, 0, none⟩ (.int .i64 t158)).setCell ⟨gb160, 1, none⟩ (.int .i64 t159)).heap[gb151]? = some (.cells #[.int .u64 t149, .int .u64 t150] 26 (0, 0))) := ⟨by (with_reducible repeat (first | apply bN_ | apply bD_ | apply bA_)); refine blk_far ?_ NB151_160.out _; (with_reducible repeat (first | apply bN_ | apply bD_ | apply bA_)); refine blk_far ?_ NB151_160.out _; exact bk_⟩
   have n1_ : Aside0 (((w64.setCell ⟨gb160, 0, none⟩ (.int .i64 t158)).setCell ⟨gb160, 1, none⟩ (.int .i64 t159)).heap[gb154]? = some (.cells #[.int .u64 t152, .int .u64 t153] 26 (0, 0))) := ⟨by (with_reducible repeat (first | apply bN_ | apply bD_ | apply bA_)); refine blk_far ?_ NB154_160.out _; (with_reducible repeat (first | apply bN_ | apply bD_ | apply bA_)); refine blk_far ?_ NB154_160.out _; exact bk_⟩
   have n2_ : Aside0 (((w64.setCell ⟨gb160, 0, none⟩ (.int .i64 t158)).setCell ⟨gb160, 1, none⟩ (.int .i64 t159)).heap[gb157]? = some (.cells #[.int .u64 t155, .int .u64 t156] 26 (0, 0))) := ⟨by (with_reducible repeat (first | apply bN_ | apply bD_ | apply bA_)); refine blk_far ?_ NB157_160.out _; (with_reducible repeat (first | apply bN_ | apply bD_ | apply bA_)); refine blk_far ?_ NB157_160.out _; exact bk_⟩
   have n3_ : Aside0 (((w64.setCell ⟨gb160, 0, none⟩ (.int .i64 t158)).setCell ⟨gb160, 1, none⟩ (.int .i64 t159)).heap[gb160]? = some (.cells #[.int .i64 t158, .int .i64 t159] 28 (0, 0))) := ⟨by (with_reducible repeat (first | apply bN_ | apply bD_ | apply bA_)); refine blk_put (cs := #[.int .i64 t158, .int .i64 0]) ?_ 1 _ rfl; (with_reducible repeat (first | apply bN_ | apply bD_ | apply bA_)); refine blk_put (cs := #[.int .i64 0, .int .i64 0]) ?_ 0 _ rfl; exact bk_⟩
   have n4_ : Aside0 (Below w.heap.size w ((w64.setCell ⟨gb160, 0, none⟩ (.int .i64 t158)).setCell ⟨gb160, 1, none⟩ (.int .i64 t159))) := ⟨by repeat (first | (with_reducible first | exact HB.out | apply lA_ | apply lN_ | apply lD_ | refine lS_ ?_ GE151.out | refine lS_ ?_ GE154.out | refine lS_ ?_ GE157.out | refine lS_ ?_ GE160.out) | exact HB.out)⟩
   (try clear BK151)
   (try clear BK154)
   (try clear BK157)
   (try clear BK160)
   (try clear HB)
   generalize ((w64.setCell ⟨gb160, 0, none⟩ (.int .i64 t158)).setCell ⟨gb160, 1, none⟩ (.int .i64 t159)) = w69 at n0_ n1_ n2_ n3_ n4_ ⊢
   have BK151 := n0_
   have BK154 := n1_
   have BK157 := n2_
   have BK160 := n3_
   have HB := n4_
   clear n0_ n1_ n2_ n3_ n4_
   replace BK151 := Aside0.mk (blk_drew BK151.out)
   replace BK154 := Aside0.mk (blk_drew BK154.out)
   replace BK157 := Aside0.mk (blk_drew BK157.out)
   replace BK160 := Aside0.mk (blk_drew BK160.out)
   replace HB := Aside0.mk (below_drew1 HB.out)
   refine start_ (n := 19) (S := fun w' => w'.cell? ⟨gb151, 0, none⟩ = some (.int .u64 t149) ∧ w'.cell? ⟨gb151, 1, none⟩ = some (.int .u64 t150) ∧ w'.cell? ⟨gb154, 0, none⟩ = some (.int .u64 t152) ∧ w'.cell? ⟨gb154, 1, none⟩ = some (.int .u64 t153)) (ds := []) #[n_,n_,n_,n_,n_,n_,n_,n_,n_,n_,n_,n_,n_,n_,n_,n_,n_,n_,n_] (by kernel_rfl) rfl rfl ⟨c0_ BK151, c1_ BK151, c0_ BK154, c1_ BK154⟩ (fun hHeld => ?_); refine with_tabW lockgatelaw04_works.tab5 lockgatelaw04_works.bits5 (fun HT_ HW_ => ?_)
   generalize w69.drew = w70 at BK151 BK154 BK157 BK160 HB hHeld ⊢
   refine pq_ 1 18 #[n_,y_,n_,n_,n_,n_,n_,n_,n_,n_,n_,n_,n_,n_,n_,n_,n_,n_,n_] ?_
   refine tq1_ 0 17 #[y_,y_,n_,n_,n_,n_,n_,n_,n_,n_,n_,n_,n_,n_,n_,n_,n_,n_,n_] hHeld ?_
   refine pq_ 2 19 #[y_,y_,y_,n_,n_,n_,n_,n_,n_,n_,n_,n_,n_,n_,n_,n_,n_,n_,n_] ?_
   refine pq_ 3 20 #[y_,y_,y_,y_,n_,n_,n_,n_,n_,n_,n_,n_,n_,n_,n_,n_,n_,n_,n_] ?_
   refine tq1_ 4 21 #[y_,y_,y_,y_,y_,n_,n_,n_,n_,n_,n_,n_,n_,n_,n_,n_,n_,n_,n_] hHeld ?_
   refine one_ (i := 5) (N := some 22) #[y_,y_,y_,y_,y_,y_,n_,n_,n_,n_,n_,n_,n_,n_,n_,n_,n_,n_,n_] rfl rfl (one_of HT_.out (by kernel_rfl)) (by decide) (fun K hK => ?_)
   refine goes_ Try.func72 (by kernel_rfl) rfl #[] (by rfl) rfl rfl (by (try simp only [List.map_toArray, List.map_cons, List.map_nil]); first | done | rfl) ?_
   with_reducible refine (span_UAll.calls  t161 t162 _ A6.out).mono ?_
   rintro e w71 ⟨rfl, hb⟩
   refine ⟨_, rfl, ?_⟩
   replace BK151 := bb_ hb BK151
   replace BK154 := bb_ hb BK154
   replace BK157 := bb_ hb BK157
   replace BK160 := bb_ hb BK160
   replace HB := bl_ hb
   try clear hb
   refine hK.out _ _ ⟨c0_ BK151, c1_ BK151, c0_ BK154, c1_ BK154⟩ (fun hHeld => ?_)
   clear hK K
   refine norm_ (a' := ?_) ?_ ?_
   rotate_left
   ·show Act.put _ (some 22) _ = _
    simp only [Act.put, s1_, s2_, s3_, i64_w, i32_w]
    rfl
   refine pq_ 6 23 #[y_,y_,y_,y_,y_,y_,y_,n_,n_,n_,n_,n_,n_,n_,n_,n_,n_,n_,n_] ?_
   refine pq_ 7 24 #[y_,y_,y_,y_,y_,y_,y_,y_,n_,n_,n_,n_,n_,n_,n_,n_,n_,n_,n_] ?_
   refine pq_ 8 25 #[y_,y_,y_,y_,y_,y_,y_,y_,y_,n_,n_,n_,n_,n_,n_,n_,n_,n_,n_] ?_
   refine pu_ 9 26 #[y_,y_,y_,y_,y_,y_,y_,y_,y_,y_,n_,n_,n_,n_,n_,n_,n_,n_,n_] ?_
   refine pu_ 10 27 #[y_,y_,y_,y_,y_,y_,y_,y_,y_,y_,y_,n_,n_,n_,n_,n_,n_,n_,n_] ?_
   refine pu_ 11 28 #[y_,y_,y_,y_,y_,y_,y_,y_,y_,y_,y_,y_,n_,n_,n_,n_,n_,n_,n_] ?_
   refine pq_ 12 29 #[y_,y_,y_,y_,y_,y_,y_,y_,y_,y_,y_,y_,y_,n_,n_,n_,n_,n_,n_] ?_
   refine pq_ 13 30 #[y_,y_,y_,y_,y_,y_,y_,y_,y_,y_,y_,y_,y_,y_,n_,n_,n_,n_,n_] ?_
   refine pu_ 14 31 #[y_,y_,y_,y_,y_,y_,y_,y_,y_,y_,y_,y_,y_,y_,y_,n_,n_,n_,n_] ?_
   refine pu_ 15 32 #[y_,y_,y_,y_,y_,y_,y_,y_,y_,y_,y_,y_,y_,y_,y_,y_,n_,n_,n_] ?_
   refine pu_ 16 33 #[y_,y_,y_,y_,y_,y_,y_,y_,y_,y_,y_,y_,y_,y_,y_,y_,y_,n_,n_] ?_
   refine pq_ 17 34 #[y_,y_,y_,y_,y_,y_,y_,y_,y_,y_,y_,y_,y_,y_,y_,y_,y_,y_,n_] ?_
   refine pq_ 18 0 #[y_,y_,y_,y_,y_,y_,y_,y_,y_,y_,y_,y_,y_,y_,y_,y_,y_,y_,y_] ?_
   refine done_ (done_of HT_.out (by kernel_rfl)) ?_
   try go_wp2
   go_ret
   exact ⟨vv_, bz_⟩
 ·rw [if_neg c5] at H
  have c5b0 : (t149 == 4 && (t150 == 18446744073709551615)) = false := by simpa using c5
  (try (have c5b1 : decide (t149 = 4 && (t150 == 18446744073709551615)) = false := by simpa using c5))
  (try (have c5b2 : (t149 == 4 && (t150 == 18446744073709551615)) = false := by simpa using c5))
  (try (have c5b3 : ¬ (t149 = 4 && (t150 == 18446744073709551615)) := by simpa using c5))
  clear c5
  obtain rfl := Option.some.inj H
  go_enter Try.func14, Try.ntmps14
  try go_wp2_with (first | ((with_reducible refine gate_callee (f := 43) rfl ?_); refine goesL_ (some 7) rfl rfl Try.func43 (by kernel_rfl) rfl #[.agg #[.int .u64 1, .int .u64 2], .agg #[.int .u64 3, .int .u64 18446744073709551613]] rfl (by (try simp only [List.map_toArray, List.map_cons, List.map_nil]); first | done | rfl) ?_; (with_reducible refine (span_UAdd.calls 1 2 3 18446744073709551613 t149 t150 _ A1.out).mono ?_); rintro e w72 ⟨rfl, hb⟩; refine ⟨_, rfl, ?_⟩; replace HB := bl_ hb; (try clear hb); (try clear hb2); (try clear hk); (try clear hi)) | ((with_reducible refine gate_dst (N := 1) rfl ?_); refine bx_ 1 #[.int .u64 0, .int .u64 0] 26 ?_; intro gb151 hg w73 BK151 hb; have GW151 := bg_ hg; have GE151 := GW151; replace HB := bl_ hb; clear hb hg; have hcz74_0 := c0_ BK151; have hcz74_1 := c1_ BK151; have hfz74_0 := fz_ BK151 0; have hfz74_1 := fz_ BK151 1) | ((with_reducible refine gate_callee (f := 44) rfl ?_); refine goesL_ (some 10) rfl rfl Try.func44 (by kernel_rfl) rfl #[.agg #[.int .u64 5, .int .u64 9], .agg #[.int .u64 1, .int .u64 6]] rfl (by (try simp only [List.map_toArray, List.map_cons, List.map_nil]); first | done | rfl) ?_; (with_reducible refine (span_USub.calls 5 9 1 6 t152 t153 _ A2.out).mono ?_); rintro e w75 ⟨rfl, hb⟩; refine ⟨_, rfl, ?_⟩; replace BK151 := Aside0.mk (blk_below (g := gb151) (o := .cells #[.int .u64 t149, .int .u64 t150] 26 (0, 0)) (by (with_reducible repeat (first | apply bN_ | apply bD_ | apply bA_)); refine blk_put (cs := #[.int .u64 t149, .int .u64 0]) ?_ 1 _ rfl; (with_reducible repeat (first | apply bN_ | apply bD_ | apply bA_)); refine blk_put (cs := #[.int .u64 0, .int .u64 0]) ?_ 0 _ rfl; exact bk_) hb); replace HB := bl_ hb; (try clear hb); (try clear hb2); (try clear hk); (try clear hi)) | ((with_reducible refine gate_dst (N := 2) rfl ?_); refine bx_ 2 #[.int .u64 0, .int .u64 0] 26 ?_; intro gb154 hg w76 BK154 hb; have GW154 := bg_ hg; have GE154 := GW154; have NB151_154 := bm_ hg BK151; have NB154_151 := bn_ hg BK151; replace BK151 := bb_ hb BK151; replace HB := bl_ hb; clear hb hg; have hnb77 := NB154_151.out; have hnc77 := NB151_154.out; have hcz78_0 := c0_ BK154; have hcz78_1 := c1_ BK154; have hfz78_0 := fz_ BK154 0; have hfz78_1 := fz_ BK154 1) | ((with_reducible refine gate_callee (f := 46) rfl ?_); refine goesL_ (some 13) rfl rfl Try.func46 (by kernel_rfl) rfl #[.agg #[.int .u64 1, .int .u64 5], .agg #[.int .u64 2, .int .u64 3]] rfl (by (try simp only [List.map_toArray, List.map_cons, List.map_nil]); first | done | rfl) ?_; (with_reducible refine (span_UOr.calls k 1 5 2 3 t155 t156 _ A3.out).mono ?_); rintro e w79 ⟨rfl, hb⟩; refine ⟨_, rfl, ?_⟩; replace BK151 := Aside0.mk (blk_below (g := gb151) (o := .cells #[.int .u64 t149, .int .u64 t150] 26 (0, 0)) (by (with_reducible repeat (first | apply bN_ | apply bD_ | apply bA_)); refine blk_far ?_ NB151_154.out _; (with_reducible repeat (first | apply bN_ | apply bD_ | apply bA_)); refine blk_far ?_ NB151_154.out _; exact bk_) hb); replace BK154 := Aside0.mk (blk_below (g := gb154) (o := .cells #[.int .u64 t152, .int .u64 t153] 26 (0, 0)) (by (with_reducible repeat (first | apply bN_ | apply bD_ | apply bA_)); refine blk_put (cs := #[.int .u64 t152, .int .u64 0]) ?_ 1 _ rfl; (with_reducible repeat (first | apply bN_ | apply bD_ | apply bA_)); refine blk_put (cs := #[.int .u64 0, .int .u64 0]) ?_ 0 _ rfl; exact bk_) hb); replace HB := bl_ hb; (try clear hb); (try clear hb2); (try clear hk); (try clear hi)) | ((with_reducible refine gate_dst (N := 3) rfl ?_); refine bx_ 3 #[.int .u64 0, .int .u64 0] 26 ?_; intro gb157 hg w80 BK157 hb; have GW157 := bg_ hg; have GE157 := GW157; have NB151_157 := bm_ hg BK151; have NB157_151 := bn_ hg BK151; have NB154_157 := bm_ hg BK154; have NB157_154 := bn_ hg BK154; replace BK151 := bb_ hb BK151; replace BK154 := bb_ hb BK154; replace HB := bl_ hb; clear hb hg; have hnb81 := NB157_151.out; have hnc81 := NB151_157.out; have hnb82 := NB157_154.out; have hnc82 := NB154_157.out; have hcz83_0 := c0_ BK157; have hcz83_1 := c1_ BK157; have hfz83_0 := fz_ BK157 0; have hfz83_1 := fz_ BK157 1) | ((with_reducible refine gate_callee (f := 19) rfl ?_); refine goesL_ (some 16) rfl rfl Try.func19 (by kernel_rfl) rfl #[.agg #[.int .i64 (-5), .int .i64 1], .agg #[.int .i64 2, .int .i64 3]] rfl (by (try simp only [List.map_toArray, List.map_cons, List.map_nil]); first | done | rfl) ?_; (with_reducible refine (span_SAdd.calls (-5) 1 2 3 t158 t159 _ A4.out).mono ?_); rintro e w84 ⟨rfl, hb⟩; refine ⟨_, rfl, ?_⟩; replace BK151 := Aside0.mk (blk_below (g := gb151) (o := .cells #[.int .u64 t149, .int .u64 t150] 26 (0, 0)) (by (with_reducible repeat (first | apply bN_ | apply bD_ | apply bA_)); refine blk_far ?_ NB151_157.out _; (with_reducible repeat (first | apply bN_ | apply bD_ | apply bA_)); refine blk_far ?_ NB151_157.out _; exact bk_) hb); replace BK154 := Aside0.mk (blk_below (g := gb154) (o := .cells #[.int .u64 t152, .int .u64 t153] 26 (0, 0)) (by (with_reducible repeat (first | apply bN_ | apply bD_ | apply bA_)); refine blk_far ?_ NB154_157.out _; (with_reducible repeat (first | apply bN_ | apply bD_ | apply bA_)); refine blk_far ?_ NB154_157.out _; exact bk_) hb); replace BK157 := Aside0.mk (blk_below (g := gb157) (o := .cells #[.int .u64 t155, .int .u64 t156] 26 (0, 0)) (by (with_reducible repeat (first | apply bN_ | apply bD_ | apply bA_)); refine blk_put (cs := #[.int .u64 t155, .int .u64 0]) ?_ 1 _ rfl; (with_reducible repeat (first | apply bN_ | apply bD_ | apply bA_)); refine blk_put (cs := #[.int .u64 0, .int .u64 0]) ?_ 0 _ rfl; exact bk_) hb); replace HB := bl_ hb; (try clear hb); (try clear hb2); (try clear hk); (try clear hi)) | ((with_reducible refine gate_dst (N := 4) rfl ?_); refine bx_ 4 #[.int .i64 0, .int .i64 0] 28 ?_; intro gb160 hg w85 BK160 hb; have GW160 := bg_ hg; have GE160 := GW160; have NB151_160 := bm_ hg BK151; have NB160_151 := bn_ hg BK151; have NB154_160 := bm_ hg BK154; have NB160_154 := bn_ hg BK154; have NB157_160 := bm_ hg BK157; have NB160_157 := bn_ hg BK157; replace BK151 := bb_ hb BK151; replace BK154 := bb_ hb BK154; replace BK157 := bb_ hb BK157; replace HB := bl_ hb; clear hb hg; have hnb86 := NB160_151.out; have hnc86 := NB151_160.out; have hnb87 := NB160_154.out; have hnc87 := NB154_160.out; have hnb88 := NB160_157.out; have hnc88 := NB157_160.out; have hcz89_0 := c0_ BK160; have hcz89_1 := c1_ BK160; have hfz89_0 := fz_ BK160 0; have hfz89_1 := fz_ BK160 1))
  have n0_ : Aside0 (((w85.setCell ⟨gb160, 0, none⟩ (.int .i64 t158)).setCell ⟨gb160, 1, none⟩ (.int .i64 t159)).heap[gb151]? = some (.cells #[.int .u64 t149, .int .u64 t150] 26 (0, 0))) := ⟨by (with_reducible repeat (first | apply bN_ | apply bD_ | apply bA_)); refine blk_far ?_ NB151_160.out _; (with_reducible repeat (first | apply bN_ | apply bD_ | apply bA_)); refine blk_far ?_ NB151_160.out _; exact bk_⟩
  have n1_ : Aside0 (((w85.setCell ⟨gb160, 0, none⟩ (.int .i64 t158)).setCell ⟨gb160, 1, none⟩ (.int .i64 t159)).heap[gb154]? = some (.cells #[.int .u64 t152, .int .u64 t153] 26 (0, 0))) := ⟨by (with_reducible repeat (first | apply bN_ | apply bD_ | apply bA_)); refine blk_far ?_ NB154_160.out _; (with_reducible repeat (first | apply bN_ | apply bD_ | apply bA_)); refine blk_far ?_ NB154_160.out _; exact bk_⟩
  have n2_ : Aside0 (((w85.setCell ⟨gb160, 0, none⟩ (.int .i64 t158)).setCell ⟨gb160, 1, none⟩ (.int .i64 t159)).heap[gb157]? = some (.cells #[.int .u64 t155, .int .u64 t156] 26 (0, 0))) := ⟨by (with_reducible repeat (first | apply bN_ | apply bD_ | apply bA_)); refine blk_far ?_ NB157_160.out _; (with_reducible repeat (first | apply bN_ | apply bD_ | apply bA_)); refine blk_far ?_ NB157_160.out _; exact bk_⟩
  have n3_ : Aside0 (((w85.setCell ⟨gb160, 0, none⟩ (.int .i64 t158)).setCell ⟨gb160, 1, none⟩ (.int .i64 t159)).heap[gb160]? = some (.cells #[.int .i64 t158, .int .i64 t159] 28 (0, 0))) := ⟨by (with_reducible repeat (first | apply bN_ | apply bD_ | apply bA_)); refine blk_put (cs := #[.int .i64 t158, .int .i64 0]) ?_ 1 _ rfl; (with_reducible repeat (first | apply bN_ | apply bD_ | apply bA_)); refine blk_put (cs := #[.int .i64 0, .int .i64 0]) ?_ 0 _ rfl; exact bk_⟩
  have n4_ : Aside0 (Below w.heap.size w ((w85.setCell ⟨gb160, 0, none⟩ (.int .i64 t158)).setCell ⟨gb160, 1, none⟩ (.int .i64 t159))) := ⟨by repeat (first | (with_reducible first | exact HB.out | apply lA_ | apply lN_ | apply lD_ | refine lS_ ?_ GE151.out | refine lS_ ?_ GE154.out | refine lS_ ?_ GE157.out | refine lS_ ?_ GE160.out) | exact HB.out)⟩
  (try clear BK151)
  (try clear BK154)
  (try clear BK157)
  (try clear BK160)
  (try clear HB)
  generalize ((w85.setCell ⟨gb160, 0, none⟩ (.int .i64 t158)).setCell ⟨gb160, 1, none⟩ (.int .i64 t159)) = w90 at n0_ n1_ n2_ n3_ n4_ ⊢
  have BK151 := n0_
  have BK154 := n1_
  have BK157 := n2_
  have BK160 := n3_
  have HB := n4_
  clear n0_ n1_ n2_ n3_ n4_
  replace BK151 := Aside0.mk (blk_drew BK151.out)
  replace BK154 := Aside0.mk (blk_drew BK154.out)
  replace BK157 := Aside0.mk (blk_drew BK157.out)
  replace BK160 := Aside0.mk (blk_drew BK160.out)
  replace HB := Aside0.mk (below_drew1 HB.out)
  refine start_ (n := 19) (S := fun w' => w'.cell? ⟨gb151, 0, none⟩ = some (.int .u64 t149) ∧ w'.cell? ⟨gb151, 1, none⟩ = some (.int .u64 t150)) (ds := []) #[n_,n_,n_,n_,n_,n_,n_,n_,n_,n_,n_,n_,n_,n_,n_,n_,n_,n_,n_] (by kernel_rfl) rfl rfl ⟨c0_ BK151, c1_ BK151⟩ (fun hHeld => ?_); refine with_tabW lockgatelaw04_works.tab5 lockgatelaw04_works.bits5 (fun HT_ HW_ => ?_)
  generalize w90.drew = w91 at BK151 BK154 BK157 BK160 HB hHeld ⊢
  refine pq_ 1 18 #[n_,y_,n_,n_,n_,n_,n_,n_,n_,n_,n_,n_,n_,n_,n_,n_,n_,n_,n_] ?_
  refine tq0_ 0 17 #[y_,y_,n_,n_,n_,n_,n_,n_,n_,n_,n_,n_,n_,n_,n_,n_,n_,n_,n_] hHeld ?_
  refine pq_ 2 19 #[y_,y_,y_,n_,n_,n_,n_,n_,n_,n_,n_,n_,n_,n_,n_,n_,n_,n_,n_] ?_
  refine pq_ 3 20 #[y_,y_,y_,y_,n_,n_,n_,n_,n_,n_,n_,n_,n_,n_,n_,n_,n_,n_,n_] ?_
  refine pu_ 4 21 #[y_,y_,y_,y_,y_,n_,n_,n_,n_,n_,n_,n_,n_,n_,n_,n_,n_,n_,n_] ?_
  refine pu_ 5 22 #[y_,y_,y_,y_,y_,y_,n_,n_,n_,n_,n_,n_,n_,n_,n_,n_,n_,n_,n_] ?_
  refine pu_ 6 23 #[y_,y_,y_,y_,y_,y_,y_,n_,n_,n_,n_,n_,n_,n_,n_,n_,n_,n_,n_] ?_
  refine pq_ 7 24 #[y_,y_,y_,y_,y_,y_,y_,y_,n_,n_,n_,n_,n_,n_,n_,n_,n_,n_,n_] ?_
  refine pq_ 8 25 #[y_,y_,y_,y_,y_,y_,y_,y_,y_,n_,n_,n_,n_,n_,n_,n_,n_,n_,n_] ?_
  refine pu_ 9 26 #[y_,y_,y_,y_,y_,y_,y_,y_,y_,y_,n_,n_,n_,n_,n_,n_,n_,n_,n_] ?_
  refine pu_ 10 27 #[y_,y_,y_,y_,y_,y_,y_,y_,y_,y_,y_,n_,n_,n_,n_,n_,n_,n_,n_] ?_
  refine pu_ 11 28 #[y_,y_,y_,y_,y_,y_,y_,y_,y_,y_,y_,y_,n_,n_,n_,n_,n_,n_,n_] ?_
  refine pq_ 12 29 #[y_,y_,y_,y_,y_,y_,y_,y_,y_,y_,y_,y_,y_,n_,n_,n_,n_,n_,n_] ?_
  refine pq_ 13 30 #[y_,y_,y_,y_,y_,y_,y_,y_,y_,y_,y_,y_,y_,y_,n_,n_,n_,n_,n_] ?_
  refine pu_ 14 31 #[y_,y_,y_,y_,y_,y_,y_,y_,y_,y_,y_,y_,y_,y_,y_,n_,n_,n_,n_] ?_
  refine pu_ 15 32 #[y_,y_,y_,y_,y_,y_,y_,y_,y_,y_,y_,y_,y_,y_,y_,y_,n_,n_,n_] ?_
  refine pu_ 16 33 #[y_,y_,y_,y_,y_,y_,y_,y_,y_,y_,y_,y_,y_,y_,y_,y_,y_,n_,n_] ?_
  refine pq_ 17 34 #[y_,y_,y_,y_,y_,y_,y_,y_,y_,y_,y_,y_,y_,y_,y_,y_,y_,y_,n_] ?_
  refine pq_ 18 0 #[y_,y_,y_,y_,y_,y_,y_,y_,y_,y_,y_,y_,y_,y_,y_,y_,y_,y_,y_] ?_
  refine done_ (done_of HT_.out (by kernel_rfl)) ?_
  try go_wp2
  go_ret
  exact ⟨vv_, bz_⟩

end Go.Proofs.Ytnephcecobocdaa.PA
