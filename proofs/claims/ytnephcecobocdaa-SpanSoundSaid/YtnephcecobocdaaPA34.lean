-- PRINTED by print.py (a twelfth state) out of the translation. Not trusted: Lean checks it.
import Derived.Test.YtnephcecobocdaaPA0
import Derived.Test.YtnephcecobocdaaSq
import Derived.Test.YtnephcecobocdaaPA6
import Derived.Test.YtnephcecobocdaaPA7
import Derived.Test.YtnephcecobocdaaPA9
import Derived.Test.YtnephcecobocdaaPA10
import Derived.Test.YtnephcecobocdaaPA11
import Derived.Test.YtnephcecobocdaaPA26
import Derived.Test.YtnephcecobocdaaPA28
namespace Go.Proofs.Ytnephcecobocdaa.PA
open Go.RowKit Go.Proofs.YtnephcecobocdaaW.PrintWords Go.Proofs.YtnephcecobocdaaW.PrintLast Go.Proofs.YtnephcecobocdaaW.PrintMore
attribute [local go_sem] max2_int min2_int max_two min_two max_three min_three max_four min_four   -- for this text's walks alone
set_option linter.unusedVariables false
set_option linter.unusedSimpArgs false

/-! ### lockgatelaw04_SpanSound: function 9 -/
mutual
def lockgatelaw04_SpanSound.j0 : Nat → Int → Int → Int → Int → Int → Int → Int → Int → Int → Option (Bool)
 | 0, _, _, _, _, _, _, _, _, _ => none
 | k + 1, x2, x13, x14, x15, x16, x585000, x585001, x586000, x586001 => (span_UIn.f x585000 x585001 x13).bind fun t588 => (if t588 = true then ((span_UAdd.f x585000 x585001 x586000 x586001).bind fun bt589 => ((span_UIn.f bt589.1 bt589.2 (IntKind.u64.wrap (x13 + x14))).bind fun t591 => (if t591 = true then ((span_USub.f x585000 x585001 x586000 x586001).bind fun bt592 => ((span_UIn.f bt592.1 bt592.2 (IntKind.u64.wrap (x13 - x14))).bind fun t594 => (if t594 = true then ((span_UMul.f x585000 x585001 x586000 x586001).bind fun bt595 => ((span_UIn.f bt595.1 bt595.2 (IntKind.u64.wrap (x13 * x14))).bind fun t597 => (if t597 = true then ((span_UDiv.f x585000 x585001 x586000 x586001).bind fun bt598 => ((span_UIn.f bt598.1 bt598.2 x15).bind fun t600 => (if t600 = true then ((span_UMod.f k x585000 x585001 x586000 x586001).bind fun bt601 => ((span_UIn.f bt601.1 bt601.2 x16).bind fun t603 => (lockgatelaw04_SpanSound.j1 k x2 x13 x14 (IntKind.u64.wrap (Go.bits .and .i64 x2 63)) (!t603) x585000 x585001 x586000 x586001))) else (lockgatelaw04_SpanSound.j1 k x2 x13 x14 (IntKind.u64.wrap (Go.bits .and .i64 x2 63)) true x585000 x585001 x586000 x586001)))) else (lockgatelaw04_SpanSound.j1 k x2 x13 x14 (IntKind.u64.wrap (Go.bits .and .i64 x2 63)) true x585000 x585001 x586000 x586001)))) else (lockgatelaw04_SpanSound.j1 k x2 x13 x14 (IntKind.u64.wrap (Go.bits .and .i64 x2 63)) true x585000 x585001 x586000 x586001)))) else (lockgatelaw04_SpanSound.j1 k x2 x13 x14 (IntKind.u64.wrap (Go.bits .and .i64 x2 63)) true x585000 x585001 x586000 x586001)))) else (lockgatelaw04_SpanSound.j1 k x2 x13 x14 (IntKind.u64.wrap (Go.bits .and .i64 x2 63)) true x585000 x585001 x586000 x586001))
def lockgatelaw04_SpanSound.j1 : Nat → Int → Int → Int → Int → Bool → Int → Int → Int → Int → Option (Bool)
 | 0, _, _, _, _, _, _, _, _, _ => none
 | k + 1, x2, x13, x14, x17, x92, x585000, x585001, x586000, x586001 => if x92 = true then (some false) else ((span_UAnd.f x585000 x585001 x586000 x586001).bind fun bt604 => ((span_UIn.f bt604.1 bt604.2 (Go.bits .and .u64 x13 x14)).bind fun t606 => (if t606 = true then ((span_UOr.f k x585000 x585001 x586000 x586001).bind fun bt607 => ((span_UIn.f bt607.1 bt607.2 (Go.bits .or .u64 x13 x14)).bind fun t609 => (if t609 = true then ((span_ULsh.f x585000 x585001 x2).bind fun bt610 => (if 0 ≤ x17 then ((span_UIn.f bt610.1 bt610.2 (shl .u64 x13 x17)).bind fun t612 => (if t612 = true then ((span_URsh.f x585000 x585001 x2).bind fun bt613 => ((span_UIn.f bt613.1 bt613.2 (shr .u64 x13 x17)).bind fun t615 => (if t615 = true then ((span_UCut.f x585000 x585001).bind fun bt616 => ((span_UIn.f bt616.1 bt616.2 (Int.tmod x13 4294967296)).bind fun t618 => (if t618 = true then ((span_ToS.f x585000 x585001).bind fun bt619 => ((span_SIn.f bt619.1 bt619.2 x13).bind fun t621 => (lockgatelaw04_SpanSound.j2 k x13 (!t621) x585000 x585001))) else (lockgatelaw04_SpanSound.j2 k x13 true x585000 x585001)))) else (lockgatelaw04_SpanSound.j2 k x13 true x585000 x585001)))) else (lockgatelaw04_SpanSound.j2 k x13 true x585000 x585001))) else (none))) else (lockgatelaw04_SpanSound.j2 k x13 true x585000 x585001)))) else (lockgatelaw04_SpanSound.j2 k x13 true x585000 x585001))))
def lockgatelaw04_SpanSound.j2 : Nat → Int → Bool → Int → Int → Option (Bool)
 | 0, _, _, _, _ => none
 | k + 1, x13, x145, x585000, x585001 => if x145 = true then (some false) else ((span_ToT.f k x585000 x585001).bind fun bt622 => (if (Go.bits .andNot .u64 x13 bt622.2) = bt622.1 then (if (Go.bits .and .u64 bt622.1 bt622.2) = 0 then ((lockgatelaw04_works.f k).bind fun t625 => (some t625)) else (some false)) else (some false)))
end
def lockgatelaw04_SpanSound.f (k : Nat) (a0_0 : Int) (a0_1 : Int) (a1_0 : Int) (a1_1 : Int) (a2 : Int) (a3 : Int) (a4 : Int) : Option (Bool) := (lockgatelaw04_Us.f a0_0 a0_1 a1_0 a1_1).bind fun bt580 => ((lockgatelaw04_of.f bt580.1 bt580.2.1 a3).bind fun t586 => ((lockgatelaw04_of.f bt580.2.2.1 bt580.2.2.2 a4).bind fun t587 => (if t587 = 0 then (lockgatelaw04_SpanSound.j0 k a2 t586 t587 0 t586 bt580.1 bt580.2.1 bt580.2.2.1 bt580.2.2.2) else (lockgatelaw04_SpanSound.j0 k a2 t586 t587 (IntKind.u64.wrap (Int.tdiv t586 t587)) (Int.tmod t586 t587) bt580.1 bt580.2.1 bt580.2.2.1 bt580.2.2.2))))
theorem lockgatelaw04_SpanSound.mono_l : ∀ k, (∀ y0 y1 y2 y3 y4 y5 y6 y7 y8, LeO (lockgatelaw04_SpanSound.j0 k y0 y1 y2 y3 y4 y5 y6 y7 y8) (lockgatelaw04_SpanSound.j0 (k + 1) y0 y1 y2 y3 y4 y5 y6 y7 y8)) ∧ (∀ y0 y1 y2 y3 y4 y5 y6 y7 y8, LeO (lockgatelaw04_SpanSound.j1 k y0 y1 y2 y3 y4 y5 y6 y7 y8) (lockgatelaw04_SpanSound.j1 (k + 1) y0 y1 y2 y3 y4 y5 y6 y7 y8)) ∧ (∀ y0 y1 y2 y3, LeO (lockgatelaw04_SpanSound.j2 k y0 y1 y2 y3) (lockgatelaw04_SpanSound.j2 (k + 1) y0 y1 y2 y3))
 | 0 => ⟨fun _ _ _ _ _ _ _ _ _ r h => by simp [lockgatelaw04_SpanSound.j0] at h, fun _ _ _ _ _ _ _ _ _ r h => by simp [lockgatelaw04_SpanSound.j1] at h, fun _ _ _ _ r h => by simp [lockgatelaw04_SpanSound.j2] at h⟩
 | k + 1 => by
  obtain ⟨ih0, ih1, ih2⟩ := lockgatelaw04_SpanSound.mono_l k
  refine ⟨?_, ?_, ?_⟩
  ·intro y0 y1 y2 y3 y4 y5 y6 y7 y8
   unfold lockgatelaw04_SpanSound.j0
   repeat' first
   | (with_reducible exact ih0 _ _ _ _ _ _ _ _ _)
   | (with_reducible exact ih1 _ _ _ _ _ _ _ _ _)
   | (with_reducible exact ih2 _ _ _ _)
   | (with_reducible exact lockgatelaw04_works.mono _)
   | (with_reducible exact span_ToT.mono _ _ _)
   | (with_reducible exact span_UMod.mono _ _ _ _ _)
   | (with_reducible exact span_UOr.mono _ _ _ _ _)
   | (with_reducible exact LeO.refl _)
   | (with_reducible exact LeO.none _)
   | (with_reducible refine LeO.ite ?_ ?_)
   | (with_reducible refine LeO.bind ?_ (fun _ => ?_))
   | exact ih0 _ _ _ _ _ _ _ _ _
   | exact ih1 _ _ _ _ _ _ _ _ _
   | exact ih2 _ _ _ _
   | exact lockgatelaw04_works.mono _
   | exact span_ToT.mono _ _ _
   | exact span_UMod.mono _ _ _ _ _
   | exact span_UOr.mono _ _ _ _ _
   | exact LeO.none _
   | refine LeO.ite ?_ ?_
   | refine LeO.bind ?_ (fun _ => ?_)
  ·intro y0 y1 y2 y3 y4 y5 y6 y7 y8
   unfold lockgatelaw04_SpanSound.j1
   repeat' first
   | (with_reducible exact ih0 _ _ _ _ _ _ _ _ _)
   | (with_reducible exact ih1 _ _ _ _ _ _ _ _ _)
   | (with_reducible exact ih2 _ _ _ _)
   | (with_reducible exact lockgatelaw04_works.mono _)
   | (with_reducible exact span_ToT.mono _ _ _)
   | (with_reducible exact span_UMod.mono _ _ _ _ _)
   | (with_reducible exact span_UOr.mono _ _ _ _ _)
   | (with_reducible exact LeO.refl _)
   | (with_reducible exact LeO.none _)
   | (with_reducible refine LeO.ite ?_ ?_)
   | (with_reducible refine LeO.bind ?_ (fun _ => ?_))
   | exact ih0 _ _ _ _ _ _ _ _ _
   | exact ih1 _ _ _ _ _ _ _ _ _
   | exact ih2 _ _ _ _
   | exact lockgatelaw04_works.mono _
   | exact span_ToT.mono _ _ _
   | exact span_UMod.mono _ _ _ _ _
   | exact span_UOr.mono _ _ _ _ _
   | exact LeO.none _
   | refine LeO.ite ?_ ?_
   | refine LeO.bind ?_ (fun _ => ?_)
  ·intro y0 y1 y2 y3
   unfold lockgatelaw04_SpanSound.j2
   repeat' first
   | (with_reducible exact ih0 _ _ _ _ _ _ _ _ _)
   | (with_reducible exact ih1 _ _ _ _ _ _ _ _ _)
   | (with_reducible exact ih2 _ _ _ _)
   | (with_reducible exact lockgatelaw04_works.mono _)
   | (with_reducible exact span_ToT.mono _ _ _)
   | (with_reducible exact span_UMod.mono _ _ _ _ _)
   | (with_reducible exact span_UOr.mono _ _ _ _ _)
   | (with_reducible exact LeO.refl _)
   | (with_reducible exact LeO.none _)
   | (with_reducible refine LeO.ite ?_ ?_)
   | (with_reducible refine LeO.bind ?_ (fun _ => ?_))
   | exact ih0 _ _ _ _ _ _ _ _ _
   | exact ih1 _ _ _ _ _ _ _ _ _
   | exact ih2 _ _ _ _
   | exact lockgatelaw04_works.mono _
   | exact span_ToT.mono _ _ _
   | exact span_UMod.mono _ _ _ _ _
   | exact span_UOr.mono _ _ _ _ _
   | exact LeO.none _
   | refine LeO.ite ?_ ?_
   | refine LeO.bind ?_ (fun _ => ?_)
theorem lockgatelaw04_SpanSound.mono : ∀ a0 a1 a2 a3 a4 a5 a6 k, LeO (lockgatelaw04_SpanSound.f k a0 a1 a2 a3 a4 a5 a6) (lockgatelaw04_SpanSound.f (k + 1) a0 a1 a2 a3 a4 a5 a6) := by
 intro a0 a1 a2 a3 a4 a5 a6 k
 obtain ⟨ih0, ih1, ih2⟩ := lockgatelaw04_SpanSound.mono_l k
 unfold lockgatelaw04_SpanSound.f
 repeat' first
  | (with_reducible exact ih0 _ _ _ _ _ _ _ _ _)
  | (with_reducible exact ih1 _ _ _ _ _ _ _ _ _)
  | (with_reducible exact ih2 _ _ _ _)
  | (with_reducible exact lockgatelaw04_works.mono _)
  | (with_reducible exact span_ToT.mono _ _ _)
  | (with_reducible exact span_UMod.mono _ _ _ _ _)
  | (with_reducible exact span_UOr.mono _ _ _ _ _)
  | (with_reducible exact LeO.refl _)
  | (with_reducible exact LeO.none _)
  | (with_reducible refine LeO.ite ?_ ?_)
  | (with_reducible refine LeO.bind ?_ (fun _ => ?_))
  | exact ih0 _ _ _ _ _ _ _ _ _
  | exact ih1 _ _ _ _ _ _ _ _ _
  | exact ih2 _ _ _ _
  | exact lockgatelaw04_works.mono _
  | exact span_ToT.mono _ _ _
  | exact span_UMod.mono _ _ _ _ _
  | exact span_UOr.mono _ _ _ _ _
  | exact LeO.none _
  | refine LeO.ite ?_ ?_
  | refine LeO.bind ?_ (fun _ => ?_)
set_option maxHeartbeats 8000000 in
set_option maxRecDepth 100000 in
theorem lockgatelaw04_SpanSound.calls (k : Nat) (a0_0 : Int) (a0_1 : Int) (a1_0 : Int) (a1_1 : Int) (a2 : Int) (a3 : Int) (a4 : Int) (r : Bool) (w : World) (HRT : Aside0 (r = true)) (h : lockgatelaw04_SpanSound.f k a0_0 a0_1 a1_0 a1_1 a2 a3 a4 = some r) :
 Calls Try.prog 9 #[.agg #[.int .u64 a0_0, .int .u64 a0_1], .agg #[.int .u64 a1_0, .int .u64 a1_1], .int .i64 a2, .int .u64 a3, .int .u64 a4] w fun e w' => e = .returned (.bool r) ∧ Below w.heap.size w w' := by
 have hu26 := Try.underlying26
 have hu24 := Try.underlying24
 have HB := Aside0.mk (Below.refl w.heap.size w)
 have H : ((lockgatelaw04_Us.f a0_0 a0_1 a1_0 a1_1).bind fun bt580 => ((lockgatelaw04_of.f bt580.1 bt580.2.1 a3).bind fun t586 => ((lockgatelaw04_of.f bt580.2.2.1 bt580.2.2.2 a4).bind fun t587 => (if t587 = 0 then (lockgatelaw04_SpanSound.j0 k a2 t586 t587 0 t586 bt580.1 bt580.2.1 bt580.2.2.1 bt580.2.2.2) else (lockgatelaw04_SpanSound.j0 k a2 t586 t587 (IntKind.u64.wrap (Int.tdiv t586 t587)) (Int.tmod t586 t587) bt580.1 bt580.2.1 bt580.2.2.1 bt580.2.2.2))))) = some r := h
 clear h
 replace H := Option.bind_eq_some_iff.mp H
 obtain ⟨⟨t580, t581, t582, t583⟩, A60, H⟩ := H
 replace H : ((lockgatelaw04_of.f t580 t581 a3).bind fun t586 => ((lockgatelaw04_of.f t582 t583 a4).bind fun t587 => (if t587 = 0 then (lockgatelaw04_SpanSound.j0 k a2 t586 t587 0 t586 t580 t581 t582 t583) else (lockgatelaw04_SpanSound.j0 k a2 t586 t587 (IntKind.u64.wrap (Int.tdiv t586 t587)) (Int.tmod t586 t587) t580 t581 t582 t583)))) = some r := H
 have A6 := Aside0.mk A60
 clear A60
 replace H := Option.bind_eq_some_iff.mp H
 obtain ⟨t586, A70, H⟩ := H
 replace H : ((lockgatelaw04_of.f t582 t583 a4).bind fun t587 => (if t587 = 0 then (lockgatelaw04_SpanSound.j0 k a2 t586 t587 0 t586 t580 t581 t582 t583) else (lockgatelaw04_SpanSound.j0 k a2 t586 t587 (IntKind.u64.wrap (Int.tdiv t586 t587)) (Int.tmod t586 t587) t580 t581 t582 t583))) = some r := H
 have A7 := Aside0.mk A70
 clear A70
 replace H := Option.bind_eq_some_iff.mp H
 obtain ⟨t587, A80, H⟩ := H
 replace H : (if t587 = 0 then (lockgatelaw04_SpanSound.j0 k a2 t586 t587 0 t586 t580 t581 t582 t583) else (lockgatelaw04_SpanSound.j0 k a2 t586 t587 (IntKind.u64.wrap (Int.tdiv t586 t587)) (Int.tmod t586 t587) t580 t581 t582 t583)) = some r := H
 have A8 := Aside0.mk A80
 clear A80
 have HC9 := Aside0.mk H
 clear H
 go_enter Try.func9, Try.ntmps9
 go_upto_if 33 with (first | ((with_reducible refine gate_dst (N := 5) rfl ?_); refine bx_ 5 #[.int .u64 a0_0, .int .u64 a0_1] 26 ?_; intro gb578 hg w10 BK578 hb; have GW578 := bg_ hg; have GE578 := GW578; replace HB := bl_ hb; clear hb hg) | ((with_reducible refine gate_dst (N := 6) rfl ?_); refine bx_ 6 #[.int .u64 a1_0, .int .u64 a1_1] 26 ?_; intro gb579 hg w11 BK579 hb; have GW579 := bg_ hg; have GE579 := GW579; have NB578_579 := bm_ hg BK578; have NB579_578 := bn_ hg BK578; replace BK578 := bb_ hb BK578; replace HB := bl_ hb; clear hb hg; have hnb12 := NB578_579.out; have hnc12 := NB579_578.out; have hcz13_0 := c0_ BK578; have hcz13_1 := c1_ BK578; have hfz13_0 := fz_ BK578 0; have hfz13_1 := fz_ BK578 1; have hcz14_0 := c0_ BK579; have hcz14_1 := c1_ BK579; have hfz14_0 := fz_ BK579 0; have hfz14_1 := fz_ BK579 1) | ((with_reducible refine gate_callee (f := 23) rfl ?_); refine goesL_ (some 22) rfl rfl Try.func23 (by kernel_rfl) rfl #[.agg #[.int .u64 a0_0, .int .u64 a0_1], .agg #[.int .u64 a1_0, .int .u64 a1_1]] rfl (by (try simp only [List.map_toArray, List.map_cons, List.map_nil]); first | done | rfl) ?_; (with_reducible refine (lockgatelaw04_Us.calls a0_0 a0_1 a1_0 a1_1 t580 t581 t582 t583 _ A6.out).mono ?_); rintro e w15 ⟨rfl, hb⟩; refine ⟨_, rfl, ?_⟩; replace BK578 := bb_ hb BK578; replace BK579 := bb_ hb BK579; replace HB := bl_ hb; (try clear hb); (try clear hb2); (try clear hk); (try clear hi)) | ((with_reducible refine gate_dst (N := 11) rfl ?_); refine bx_ 11 #[.int .u64 0, .int .u64 0] 26 ?_; intro gb584 hg w16 BK584 hb; have GW584 := bg_ hg; have GE584 := GW584; have NB578_584 := bm_ hg BK578; have NB584_578 := bn_ hg BK578; have NB579_584 := bm_ hg BK579; have NB584_579 := bn_ hg BK579; replace BK578 := bb_ hb BK578; replace BK579 := bb_ hb BK579; replace HB := bl_ hb; clear hb hg) | ((with_reducible refine gate_dst (N := 12) rfl ?_); refine bx_ 12 #[.int .u64 0, .int .u64 0] 26 ?_; intro gb585 hg w17 BK585 hb; have GW585 := bg_ hg; have GE585 := GW585; have NB578_585 := bm_ hg BK578; have NB585_578 := bn_ hg BK578; have NB579_585 := bm_ hg BK579; have NB585_579 := bn_ hg BK579; have NB584_585 := bm_ hg BK584; have NB585_584 := bn_ hg BK584; replace BK578 := bb_ hb BK578; replace BK579 := bb_ hb BK579; replace BK584 := bb_ hb BK584; replace HB := bl_ hb; clear hb hg; have hnb18 := NB584_578.out; have hnc18 := NB578_584.out; have hnb19 := NB584_579.out; have hnc19 := NB579_584.out; have hnb20 := NB584_585.out; have hnc20 := NB585_584.out; have hcz21_0 := c0_ BK584; have hcz21_1 := c1_ BK584; have hfz21_0 := fz_ BK584 0; have hfz21_1 := fz_ BK584 1; have hnb22 := NB585_578.out; have hnc22 := NB578_585.out; have hnb23 := NB585_579.out; have hnc23 := NB579_585.out; have hcz24_0 := c0_ BK585; have hcz24_1 := c1_ BK585; have hfz24_0 := fz_ BK585 0; have hfz24_1 := fz_ BK585 1) | ((with_reducible refine gate_callee (f := 53) rfl ?_); refine goesL_ (some 27) rfl rfl Try.func53 (by kernel_rfl) rfl #[.agg #[.int .u64 t580, .int .u64 t581], .int .u64 a3] rfl (by (try simp only [List.map_toArray, List.map_cons, List.map_nil]); first | done | rfl) ?_; (with_reducible refine (lockgatelaw04_of.calls t580 t581 a3 t586 _ A7.out).mono ?_); rintro e w25 ⟨rfl, hb⟩; refine ⟨_, rfl, ?_⟩; replace BK578 := Aside0.mk (blk_below (g := gb578) (o := .cells #[.int .u64 a0_0, .int .u64 a0_1] 26 (0, 0)) (by (with_reducible repeat (first | apply bN_ | apply bD_ | apply bA_)); refine blk_far ?_ NB578_585.out _; (with_reducible repeat (first | apply bN_ | apply bD_ | apply bA_)); refine blk_far ?_ NB578_585.out _; (with_reducible repeat (first | apply bN_ | apply bD_ | apply bA_)); refine blk_far ?_ NB578_584.out _; (with_reducible repeat (first | apply bN_ | apply bD_ | apply bA_)); refine blk_far ?_ NB578_584.out _; exact bk_) hb); replace BK579 := Aside0.mk (blk_below (g := gb579) (o := .cells #[.int .u64 a1_0, .int .u64 a1_1] 26 (0, 0)) (by (with_reducible repeat (first | apply bN_ | apply bD_ | apply bA_)); refine blk_far ?_ NB579_585.out _; (with_reducible repeat (first | apply bN_ | apply bD_ | apply bA_)); refine blk_far ?_ NB579_585.out _; (with_reducible repeat (first | apply bN_ | apply bD_ | apply bA_)); refine blk_far ?_ NB579_584.out _; (with_reducible repeat (first | apply bN_ | apply bD_ | apply bA_)); refine blk_far ?_ NB579_584.out _; exact bk_) hb); replace BK584 := Aside0.mk (blk_below (g := gb584) (o := .cells #[.int .u64 t580, .int .u64 t581] 26 (0, 0)) (by (with_reducible repeat (first | apply bN_ | apply bD_ | apply bA_)); refine blk_far ?_ NB584_585.out _; (with_reducible repeat (first | apply bN_ | apply bD_ | apply bA_)); refine blk_far ?_ NB584_585.out _; (with_reducible repeat (first | apply bN_ | apply bD_ | apply bA_)); refine blk_put (cs := #[.int .u64 t580, .int .u64 0]) ?_ 1 _ rfl; (with_reducible repeat (first | apply bN_ | apply bD_ | apply bA_)); refine blk_put (cs := #[.int .u64 0, .int .u64 0]) ?_ 0 _ rfl; exact bk_) hb); replace BK585 := Aside0.mk (blk_below (g := gb585) (o := .cells #[.int .u64 t582, .int .u64 t583] 26 (0, 0)) (by (with_reducible repeat (first | apply bN_ | apply bD_ | apply bA_)); refine blk_put (cs := #[.int .u64 t582, .int .u64 0]) ?_ 1 _ rfl; (with_reducible repeat (first | apply bN_ | apply bD_ | apply bA_)); refine blk_put (cs := #[.int .u64 0, .int .u64 0]) ?_ 0 _ rfl; (with_reducible repeat (first | apply bN_ | apply bD_ | apply bA_)); refine blk_far ?_ NB585_584.out _; (with_reducible repeat (first | apply bN_ | apply bD_ | apply bA_)); refine blk_far ?_ NB585_584.out _; exact bk_) hb); replace HB := bl_ hb; (try clear hb); (try clear hb2); (try clear hk); (try clear hi); have hcz26_0 := c0_ BK585; have hcz26_1 := c1_ BK585; have hfz26_0 := fz_ BK585 0; have hfz26_1 := fz_ BK585 1) | ((with_reducible refine gate_callee (f := 53) rfl ?_); refine goesL_ (some 30) rfl rfl Try.func53 (by kernel_rfl) rfl #[.agg #[.int .u64 t582, .int .u64 t583], .int .u64 a4] rfl (by (try simp only [List.map_toArray, List.map_cons, List.map_nil]); first | done | rfl) ?_; (with_reducible refine (lockgatelaw04_of.calls t582 t583 a4 t587 _ A8.out).mono ?_); rintro e w27 ⟨rfl, hb⟩; refine ⟨_, rfl, ?_⟩; replace BK578 := bb_ hb BK578; replace BK579 := bb_ hb BK579; replace BK584 := bb_ hb BK584; replace BK585 := bb_ hb BK585; replace HB := bl_ hb; (try clear hb); (try clear hb2); (try clear hk); (try clear hi)))
 (try simp only [Act.put, s1_, s2_, s3_])
 go_cut [15, 16] (fun v15 v16 wc => ∃ (kq : Nat) (x15_8 : Int) (x16_8 : Int), v15 = .int .u64 x15_8 ∧ v16 = .int .u64 x16_8 ∧ Aside0 (lockgatelaw04_SpanSound.j0 kq a2 t586 t587 x15_8 x16_8 t580 t581 t582 t583 = some r) ∧ Aside0 (kq ≤ k) ∧ Aside0 (wc.heap[gb578]? = some (.cells #[.int .u64 a0_0, .int .u64 a0_1] 26 (0, 0))) ∧ Aside0 (wc.heap[gb579]? = some (.cells #[.int .u64 a1_0, .int .u64 a1_1] 26 (0, 0))) ∧ Aside0 (wc.heap[gb584]? = some (.cells #[.int .u64 t580, .int .u64 t581] 26 (0, 0))) ∧ Aside0 (wc.heap[gb585]? = some (.cells #[.int .u64 t582, .int .u64 t583] 26 (0, 0))) ∧ Aside0 (Below w.heap.size w wc))
 case first =>
  have H := HC9.out
  clear HC9
  by_cases c28 : t587 = 0
  ·rw [if_pos c28] at H
   have c28b0 : (t587 == 0) = true := beq_iff_eq.mpr c28
   have c28b1 : (t587 != 0) = false := bne_eq_false_iff_eq.mpr c28
   clear c28
   (first | rw [c28b0] | (simp only [i64_w, i32_w]; rw [c28b0]) | skip)
   have H' := Aside0.mk H
   clear H
   go_wp2
   go_meet
   case rel => exact ⟨_, (0), (t586), (by first | rfl | (simp; done) | (simp [*]; done)), (by first | rfl | (simp; done) | (simp [*]; done)), H', ⟨by first | omega | exact Nat.le_refl _⟩, ⟨by exact bk_⟩, ⟨by exact bk_⟩, ⟨by exact bk_⟩, ⟨by exact bk_⟩, ⟨by repeat (first | (with_reducible first | exact HB.out | apply lA_ | apply lN_ | apply lD_ | refine lS_ ?_ GE578.out | refine lS_ ?_ GE579.out | refine lS_ ?_ GE584.out | refine lS_ ?_ GE585.out) | exact HB.out)⟩⟩
  ·rw [if_neg c28] at H
   have c28b0 : (t587 == 0) = false := beq_eq_false_iff_ne.mpr c28
   have c28b1 : (t587 != 0) = true := bne_iff_ne.mpr c28
   (first | rw [c28b0] | (simp only [i64_w, i32_w]; rw [c28b0]) | skip)
   have H' := Aside0.mk H
   clear H
   go_wp2
   go_meet
   case rel => exact ⟨_, (IntKind.u64.wrap (Int.tdiv t586 t587)), (Int.tmod t586 t587), (by first | rfl | (simp; done) | (simp [*]; done)), (by first | rfl | (simp; done) | (simp [*]; done)), H', ⟨by first | omega | exact Nat.le_refl _⟩, ⟨by exact bk_⟩, ⟨by exact bk_⟩, ⟨by exact bk_⟩, ⟨by exact bk_⟩, ⟨by repeat (first | (with_reducible first | exact HB.out | apply lA_ | apply lN_ | apply lD_ | refine lS_ ?_ GE578.out | refine lS_ ?_ GE579.out | refine lS_ ?_ GE584.out | refine lS_ ?_ GE585.out) | exact HB.out)⟩⟩
 case rest =>
  clear HC9
  try clear c1
  try clear c2
  try clear p2
  try clear c5
  try clear c9
  try clear c12
  try clear c18
  try clear c19
  try clear c20
  try clear c22
  try clear c23
  try clear c28
  try clear c28b0
  try clear c28b1
  try clear hcz13_0
  try clear hcz13_1
  try clear hcz14_0
  try clear hcz14_1
  try clear hcz21_0
  try clear hcz21_1
  try clear hcz24_0
  try clear hcz24_1
  try clear hcz26_0
  try clear hcz26_1
  try clear hfz13_0
  try clear hfz13_1
  try clear hfz14_0
  try clear hfz14_1
  try clear hfz21_0
  try clear hfz21_1
  try clear hfz24_0
  try clear hfz24_1
  try clear hfz26_0
  try clear hfz26_1
  obtain ⟨kq, x15_8, x16_8, rfl, rfl, HA, HJ8, BK578, BK579, BK584, BK585, HB⟩ := hcut
  cases kq with
  | zero => exact absurd HA.out (by simp [lockgatelaw04_SpanSound.j0])
  | succ kj8 =>
   have H := HA.out
   clear HA
   simp only [lockgatelaw04_SpanSound.j0] at H
   have HC29 := Aside0.mk H
   clear H
   go_upto_region 10 with (fail)
   go_cut [92] (fun v92 wc => ∃ (kq : Nat) (x92_28 : Bool), v92 = .bool x92_28 ∧ Aside0 (lockgatelaw04_SpanSound.j1 kq a2 t586 t587 (IntKind.u64.wrap (Go.bits .and .i64 a2 63)) x92_28 t580 t581 t582 t583 = some r) ∧ Aside0 (kq ≤ kj8) ∧ Aside0 (wc.heap[gb578]? = some (.cells #[.int .u64 a0_0, .int .u64 a0_1] 26 (0, 0))) ∧ Aside0 (wc.heap[gb579]? = some (.cells #[.int .u64 a1_0, .int .u64 a1_1] 26 (0, 0))) ∧ Aside0 (wc.heap[gb584]? = some (.cells #[.int .u64 t580, .int .u64 t581] 26 (0, 0))) ∧ Aside0 (wc.heap[gb585]? = some (.cells #[.int .u64 t582, .int .u64 t583] 26 (0, 0))) ∧ Aside0 (Below w.heap.size w wc))
   case first =>
    have H := HC29.out
    clear HC29
    replace H := Option.bind_eq_some_iff.mp H
    obtain ⟨t588, A300, H⟩ := H
    replace H : (if t588 = true then ((span_UAdd.f t580 t581 t582 t583).bind fun bt589 => ((span_UIn.f bt589.1 bt589.2 (IntKind.u64.wrap (t586 + t587))).bind fun t591 => (if t591 = true then ((span_USub.f t580 t581 t582 t583).bind fun bt592 => ((span_UIn.f bt592.1 bt592.2 (IntKind.u64.wrap (t586 - t587))).bind fun t594 => (if t594 = true then ((span_UMul.f t580 t581 t582 t583).bind fun bt595 => ((span_UIn.f bt595.1 bt595.2 (IntKind.u64.wrap (t586 * t587))).bind fun t597 => (if t597 = true then ((span_UDiv.f t580 t581 t582 t583).bind fun bt598 => ((span_UIn.f bt598.1 bt598.2 x15_8).bind fun t600 => (if t600 = true then ((span_UMod.f kj8 t580 t581 t582 t583).bind fun bt601 => ((span_UIn.f bt601.1 bt601.2 x16_8).bind fun t603 => (lockgatelaw04_SpanSound.j1 kj8 a2 t586 t587 (IntKind.u64.wrap (Go.bits .and .i64 a2 63)) (!t603) t580 t581 t582 t583))) else (lockgatelaw04_SpanSound.j1 kj8 a2 t586 t587 (IntKind.u64.wrap (Go.bits .and .i64 a2 63)) true t580 t581 t582 t583)))) else (lockgatelaw04_SpanSound.j1 kj8 a2 t586 t587 (IntKind.u64.wrap (Go.bits .and .i64 a2 63)) true t580 t581 t582 t583)))) else (lockgatelaw04_SpanSound.j1 kj8 a2 t586 t587 (IntKind.u64.wrap (Go.bits .and .i64 a2 63)) true t580 t581 t582 t583)))) else (lockgatelaw04_SpanSound.j1 kj8 a2 t586 t587 (IntKind.u64.wrap (Go.bits .and .i64 a2 63)) true t580 t581 t582 t583)))) else (lockgatelaw04_SpanSound.j1 kj8 a2 t586 t587 (IntKind.u64.wrap (Go.bits .and .i64 a2 63)) true t580 t581 t582 t583)) = some r := H
    have A30 := Aside0.mk A300
    clear A300
    by_cases c31 : t588 = true
    ·subst c31
     have H1 : ((span_UAdd.f t580 t581 t582 t583).bind fun bt589 => ((span_UIn.f bt589.1 bt589.2 (IntKind.u64.wrap (t586 + t587))).bind fun t591 => (if t591 = true then ((span_USub.f t580 t581 t582 t583).bind fun bt592 => ((span_UIn.f bt592.1 bt592.2 (IntKind.u64.wrap (t586 - t587))).bind fun t594 => (if t594 = true then ((span_UMul.f t580 t581 t582 t583).bind fun bt595 => ((span_UIn.f bt595.1 bt595.2 (IntKind.u64.wrap (t586 * t587))).bind fun t597 => (if t597 = true then ((span_UDiv.f t580 t581 t582 t583).bind fun bt598 => ((span_UIn.f bt598.1 bt598.2 x15_8).bind fun t600 => (if t600 = true then ((span_UMod.f kj8 t580 t581 t582 t583).bind fun bt601 => ((span_UIn.f bt601.1 bt601.2 x16_8).bind fun t603 => (lockgatelaw04_SpanSound.j1 kj8 a2 t586 t587 (IntKind.u64.wrap (Go.bits .and .i64 a2 63)) (!t603) t580 t581 t582 t583))) else (lockgatelaw04_SpanSound.j1 kj8 a2 t586 t587 (IntKind.u64.wrap (Go.bits .and .i64 a2 63)) true t580 t581 t582 t583)))) else (lockgatelaw04_SpanSound.j1 kj8 a2 t586 t587 (IntKind.u64.wrap (Go.bits .and .i64 a2 63)) true t580 t581 t582 t583)))) else (lockgatelaw04_SpanSound.j1 kj8 a2 t586 t587 (IntKind.u64.wrap (Go.bits .and .i64 a2 63)) true t580 t581 t582 t583)))) else (lockgatelaw04_SpanSound.j1 kj8 a2 t586 t587 (IntKind.u64.wrap (Go.bits .and .i64 a2 63)) true t580 t581 t582 t583)))) = some r := by rw [if_pos rfl] at H; exact H
     clear H
     have H := H1
     clear H1
     replace H := Option.bind_eq_some_iff.mp H
     obtain ⟨⟨t589, t590⟩, A320, H⟩ := H
     replace H : ((span_UIn.f t589 t590 (IntKind.u64.wrap (t586 + t587))).bind fun t591 => (if t591 = true then ((span_USub.f t580 t581 t582 t583).bind fun bt592 => ((span_UIn.f bt592.1 bt592.2 (IntKind.u64.wrap (t586 - t587))).bind fun t594 => (if t594 = true then ((span_UMul.f t580 t581 t582 t583).bind fun bt595 => ((span_UIn.f bt595.1 bt595.2 (IntKind.u64.wrap (t586 * t587))).bind fun t597 => (if t597 = true then ((span_UDiv.f t580 t581 t582 t583).bind fun bt598 => ((span_UIn.f bt598.1 bt598.2 x15_8).bind fun t600 => (if t600 = true then ((span_UMod.f kj8 t580 t581 t582 t583).bind fun bt601 => ((span_UIn.f bt601.1 bt601.2 x16_8).bind fun t603 => (lockgatelaw04_SpanSound.j1 kj8 a2 t586 t587 (IntKind.u64.wrap (Go.bits .and .i64 a2 63)) (!t603) t580 t581 t582 t583))) else (lockgatelaw04_SpanSound.j1 kj8 a2 t586 t587 (IntKind.u64.wrap (Go.bits .and .i64 a2 63)) true t580 t581 t582 t583)))) else (lockgatelaw04_SpanSound.j1 kj8 a2 t586 t587 (IntKind.u64.wrap (Go.bits .and .i64 a2 63)) true t580 t581 t582 t583)))) else (lockgatelaw04_SpanSound.j1 kj8 a2 t586 t587 (IntKind.u64.wrap (Go.bits .and .i64 a2 63)) true t580 t581 t582 t583)))) else (lockgatelaw04_SpanSound.j1 kj8 a2 t586 t587 (IntKind.u64.wrap (Go.bits .and .i64 a2 63)) true t580 t581 t582 t583))) = some r := H
     have A32 := Aside0.mk A320
     clear A320
     replace H := Option.bind_eq_some_iff.mp H
     obtain ⟨t591, A330, H⟩ := H
     replace H : (if t591 = true then ((span_USub.f t580 t581 t582 t583).bind fun bt592 => ((span_UIn.f bt592.1 bt592.2 (IntKind.u64.wrap (t586 - t587))).bind fun t594 => (if t594 = true then ((span_UMul.f t580 t581 t582 t583).bind fun bt595 => ((span_UIn.f bt595.1 bt595.2 (IntKind.u64.wrap (t586 * t587))).bind fun t597 => (if t597 = true then ((span_UDiv.f t580 t581 t582 t583).bind fun bt598 => ((span_UIn.f bt598.1 bt598.2 x15_8).bind fun t600 => (if t600 = true then ((span_UMod.f kj8 t580 t581 t582 t583).bind fun bt601 => ((span_UIn.f bt601.1 bt601.2 x16_8).bind fun t603 => (lockgatelaw04_SpanSound.j1 kj8 a2 t586 t587 (IntKind.u64.wrap (Go.bits .and .i64 a2 63)) (!t603) t580 t581 t582 t583))) else (lockgatelaw04_SpanSound.j1 kj8 a2 t586 t587 (IntKind.u64.wrap (Go.bits .and .i64 a2 63)) true t580 t581 t582 t583)))) else (lockgatelaw04_SpanSound.j1 kj8 a2 t586 t587 (IntKind.u64.wrap (Go.bits .and .i64 a2 63)) true t580 t581 t582 t583)))) else (lockgatelaw04_SpanSound.j1 kj8 a2 t586 t587 (IntKind.u64.wrap (Go.bits .and .i64 a2 63)) true t580 t581 t582 t583)))) else (lockgatelaw04_SpanSound.j1 kj8 a2 t586 t587 (IntKind.u64.wrap (Go.bits .and .i64 a2 63)) true t580 t581 t582 t583)) = some r := H
     have A33 := Aside0.mk A330
     clear A330
     by_cases c34 : t591 = true
     ·subst c34
      have H1 : ((span_USub.f t580 t581 t582 t583).bind fun bt592 => ((span_UIn.f bt592.1 bt592.2 (IntKind.u64.wrap (t586 - t587))).bind fun t594 => (if t594 = true then ((span_UMul.f t580 t581 t582 t583).bind fun bt595 => ((span_UIn.f bt595.1 bt595.2 (IntKind.u64.wrap (t586 * t587))).bind fun t597 => (if t597 = true then ((span_UDiv.f t580 t581 t582 t583).bind fun bt598 => ((span_UIn.f bt598.1 bt598.2 x15_8).bind fun t600 => (if t600 = true then ((span_UMod.f kj8 t580 t581 t582 t583).bind fun bt601 => ((span_UIn.f bt601.1 bt601.2 x16_8).bind fun t603 => (lockgatelaw04_SpanSound.j1 kj8 a2 t586 t587 (IntKind.u64.wrap (Go.bits .and .i64 a2 63)) (!t603) t580 t581 t582 t583))) else (lockgatelaw04_SpanSound.j1 kj8 a2 t586 t587 (IntKind.u64.wrap (Go.bits .and .i64 a2 63)) true t580 t581 t582 t583)))) else (lockgatelaw04_SpanSound.j1 kj8 a2 t586 t587 (IntKind.u64.wrap (Go.bits .and .i64 a2 63)) true t580 t581 t582 t583)))) else (lockgatelaw04_SpanSound.j1 kj8 a2 t586 t587 (IntKind.u64.wrap (Go.bits .and .i64 a2 63)) true t580 t581 t582 t583)))) = some r := by rw [if_pos rfl] at H; exact H
      clear H
      have H := H1
      clear H1
      replace H := Option.bind_eq_some_iff.mp H
      obtain ⟨⟨t592, t593⟩, A350, H⟩ := H
      replace H : ((span_UIn.f t592 t593 (IntKind.u64.wrap (t586 - t587))).bind fun t594 => (if t594 = true then ((span_UMul.f t580 t581 t582 t583).bind fun bt595 => ((span_UIn.f bt595.1 bt595.2 (IntKind.u64.wrap (t586 * t587))).bind fun t597 => (if t597 = true then ((span_UDiv.f t580 t581 t582 t583).bind fun bt598 => ((span_UIn.f bt598.1 bt598.2 x15_8).bind fun t600 => (if t600 = true then ((span_UMod.f kj8 t580 t581 t582 t583).bind fun bt601 => ((span_UIn.f bt601.1 bt601.2 x16_8).bind fun t603 => (lockgatelaw04_SpanSound.j1 kj8 a2 t586 t587 (IntKind.u64.wrap (Go.bits .and .i64 a2 63)) (!t603) t580 t581 t582 t583))) else (lockgatelaw04_SpanSound.j1 kj8 a2 t586 t587 (IntKind.u64.wrap (Go.bits .and .i64 a2 63)) true t580 t581 t582 t583)))) else (lockgatelaw04_SpanSound.j1 kj8 a2 t586 t587 (IntKind.u64.wrap (Go.bits .and .i64 a2 63)) true t580 t581 t582 t583)))) else (lockgatelaw04_SpanSound.j1 kj8 a2 t586 t587 (IntKind.u64.wrap (Go.bits .and .i64 a2 63)) true t580 t581 t582 t583))) = some r := H
      have A35 := Aside0.mk A350
      clear A350
      replace H := Option.bind_eq_some_iff.mp H
      obtain ⟨t594, A360, H⟩ := H
      replace H : (if t594 = true then ((span_UMul.f t580 t581 t582 t583).bind fun bt595 => ((span_UIn.f bt595.1 bt595.2 (IntKind.u64.wrap (t586 * t587))).bind fun t597 => (if t597 = true then ((span_UDiv.f t580 t581 t582 t583).bind fun bt598 => ((span_UIn.f bt598.1 bt598.2 x15_8).bind fun t600 => (if t600 = true then ((span_UMod.f kj8 t580 t581 t582 t583).bind fun bt601 => ((span_UIn.f bt601.1 bt601.2 x16_8).bind fun t603 => (lockgatelaw04_SpanSound.j1 kj8 a2 t586 t587 (IntKind.u64.wrap (Go.bits .and .i64 a2 63)) (!t603) t580 t581 t582 t583))) else (lockgatelaw04_SpanSound.j1 kj8 a2 t586 t587 (IntKind.u64.wrap (Go.bits .and .i64 a2 63)) true t580 t581 t582 t583)))) else (lockgatelaw04_SpanSound.j1 kj8 a2 t586 t587 (IntKind.u64.wrap (Go.bits .and .i64 a2 63)) true t580 t581 t582 t583)))) else (lockgatelaw04_SpanSound.j1 kj8 a2 t586 t587 (IntKind.u64.wrap (Go.bits .and .i64 a2 63)) true t580 t581 t582 t583)) = some r := H
      have A36 := Aside0.mk A360
      clear A360
      by_cases c37 : t594 = true
      ·subst c37
       have H1 : ((span_UMul.f t580 t581 t582 t583).bind fun bt595 => ((span_UIn.f bt595.1 bt595.2 (IntKind.u64.wrap (t586 * t587))).bind fun t597 => (if t597 = true then ((span_UDiv.f t580 t581 t582 t583).bind fun bt598 => ((span_UIn.f bt598.1 bt598.2 x15_8).bind fun t600 => (if t600 = true then ((span_UMod.f kj8 t580 t581 t582 t583).bind fun bt601 => ((span_UIn.f bt601.1 bt601.2 x16_8).bind fun t603 => (lockgatelaw04_SpanSound.j1 kj8 a2 t586 t587 (IntKind.u64.wrap (Go.bits .and .i64 a2 63)) (!t603) t580 t581 t582 t583))) else (lockgatelaw04_SpanSound.j1 kj8 a2 t586 t587 (IntKind.u64.wrap (Go.bits .and .i64 a2 63)) true t580 t581 t582 t583)))) else (lockgatelaw04_SpanSound.j1 kj8 a2 t586 t587 (IntKind.u64.wrap (Go.bits .and .i64 a2 63)) true t580 t581 t582 t583)))) = some r := by rw [if_pos rfl] at H; exact H
       clear H
       have H := H1
       clear H1
       replace H := Option.bind_eq_some_iff.mp H
       obtain ⟨⟨t595, t596⟩, A380, H⟩ := H
       replace H : ((span_UIn.f t595 t596 (IntKind.u64.wrap (t586 * t587))).bind fun t597 => (if t597 = true then ((span_UDiv.f t580 t581 t582 t583).bind fun bt598 => ((span_UIn.f bt598.1 bt598.2 x15_8).bind fun t600 => (if t600 = true then ((span_UMod.f kj8 t580 t581 t582 t583).bind fun bt601 => ((span_UIn.f bt601.1 bt601.2 x16_8).bind fun t603 => (lockgatelaw04_SpanSound.j1 kj8 a2 t586 t587 (IntKind.u64.wrap (Go.bits .and .i64 a2 63)) (!t603) t580 t581 t582 t583))) else (lockgatelaw04_SpanSound.j1 kj8 a2 t586 t587 (IntKind.u64.wrap (Go.bits .and .i64 a2 63)) true t580 t581 t582 t583)))) else (lockgatelaw04_SpanSound.j1 kj8 a2 t586 t587 (IntKind.u64.wrap (Go.bits .and .i64 a2 63)) true t580 t581 t582 t583))) = some r := H
       have A38 := Aside0.mk A380
       clear A380
       replace H := Option.bind_eq_some_iff.mp H
       obtain ⟨t597, A390, H⟩ := H
       replace H : (if t597 = true then ((span_UDiv.f t580 t581 t582 t583).bind fun bt598 => ((span_UIn.f bt598.1 bt598.2 x15_8).bind fun t600 => (if t600 = true then ((span_UMod.f kj8 t580 t581 t582 t583).bind fun bt601 => ((span_UIn.f bt601.1 bt601.2 x16_8).bind fun t603 => (lockgatelaw04_SpanSound.j1 kj8 a2 t586 t587 (IntKind.u64.wrap (Go.bits .and .i64 a2 63)) (!t603) t580 t581 t582 t583))) else (lockgatelaw04_SpanSound.j1 kj8 a2 t586 t587 (IntKind.u64.wrap (Go.bits .and .i64 a2 63)) true t580 t581 t582 t583)))) else (lockgatelaw04_SpanSound.j1 kj8 a2 t586 t587 (IntKind.u64.wrap (Go.bits .and .i64 a2 63)) true t580 t581 t582 t583)) = some r := H
       have A39 := Aside0.mk A390
       clear A390
       by_cases c40 : t597 = true
       ·subst c40
        have H1 : ((span_UDiv.f t580 t581 t582 t583).bind fun bt598 => ((span_UIn.f bt598.1 bt598.2 x15_8).bind fun t600 => (if t600 = true then ((span_UMod.f kj8 t580 t581 t582 t583).bind fun bt601 => ((span_UIn.f bt601.1 bt601.2 x16_8).bind fun t603 => (lockgatelaw04_SpanSound.j1 kj8 a2 t586 t587 (IntKind.u64.wrap (Go.bits .and .i64 a2 63)) (!t603) t580 t581 t582 t583))) else (lockgatelaw04_SpanSound.j1 kj8 a2 t586 t587 (IntKind.u64.wrap (Go.bits .and .i64 a2 63)) true t580 t581 t582 t583)))) = some r := by rw [if_pos rfl] at H; exact H
        clear H
        have H := H1
        clear H1
        replace H := Option.bind_eq_some_iff.mp H
        obtain ⟨⟨t598, t599⟩, A410, H⟩ := H
        replace H : ((span_UIn.f t598 t599 x15_8).bind fun t600 => (if t600 = true then ((span_UMod.f kj8 t580 t581 t582 t583).bind fun bt601 => ((span_UIn.f bt601.1 bt601.2 x16_8).bind fun t603 => (lockgatelaw04_SpanSound.j1 kj8 a2 t586 t587 (IntKind.u64.wrap (Go.bits .and .i64 a2 63)) (!t603) t580 t581 t582 t583))) else (lockgatelaw04_SpanSound.j1 kj8 a2 t586 t587 (IntKind.u64.wrap (Go.bits .and .i64 a2 63)) true t580 t581 t582 t583))) = some r := H
        have A41 := Aside0.mk A410
        clear A410
        replace H := Option.bind_eq_some_iff.mp H
        obtain ⟨t600, A420, H⟩ := H
        replace H : (if t600 = true then ((span_UMod.f kj8 t580 t581 t582 t583).bind fun bt601 => ((span_UIn.f bt601.1 bt601.2 x16_8).bind fun t603 => (lockgatelaw04_SpanSound.j1 kj8 a2 t586 t587 (IntKind.u64.wrap (Go.bits .and .i64 a2 63)) (!t603) t580 t581 t582 t583))) else (lockgatelaw04_SpanSound.j1 kj8 a2 t586 t587 (IntKind.u64.wrap (Go.bits .and .i64 a2 63)) true t580 t581 t582 t583)) = some r := H
        have A42 := Aside0.mk A420
        clear A420
        by_cases c43 : t600 = true
        ·subst c43
         have H1 : ((span_UMod.f kj8 t580 t581 t582 t583).bind fun bt601 => ((span_UIn.f bt601.1 bt601.2 x16_8).bind fun t603 => (lockgatelaw04_SpanSound.j1 kj8 a2 t586 t587 (IntKind.u64.wrap (Go.bits .and .i64 a2 63)) (!t603) t580 t581 t582 t583))) = some r := by rw [if_pos rfl] at H; exact H
         clear H
         have H := H1
         clear H1
         replace H := Option.bind_eq_some_iff.mp H
         obtain ⟨⟨t601, t602⟩, A440, H⟩ := H
         replace H : ((span_UIn.f t601 t602 x16_8).bind fun t603 => (lockgatelaw04_SpanSound.j1 kj8 a2 t586 t587 (IntKind.u64.wrap (Go.bits .and .i64 a2 63)) (!t603) t580 t581 t582 t583)) = some r := H
         have A44 := Aside0.mk A440
         clear A440
         replace H := Option.bind_eq_some_iff.mp H
         obtain ⟨t603, A450, H⟩ := H
         replace H : (lockgatelaw04_SpanSound.j1 kj8 a2 t586 t587 (IntKind.u64.wrap (Go.bits .and .i64 a2 63)) (!t603) t580 t581 t582 t583) = some r := H
         have A45 := Aside0.mk A450
         clear A450
         have H' := Aside0.mk H
         clear H
         have hnb46 := NB584_578.out
         have hnc46 := NB578_584.out
         have hnb47 := NB584_579.out
         have hnc47 := NB579_584.out
         have hnb48 := NB584_585.out
         have hnc48 := NB585_584.out
         have hcz49_0 := c0_ BK584
         have hcz49_1 := c1_ BK584
         have hfz49_0 := fz_ BK584 0
         have hfz49_1 := fz_ BK584 1
         go_wp2_with (first | ((with_reducible refine gate_callee (f := 15) rfl ?_); refine goesL_ (some 45) rfl rfl Try.func15 (by kernel_rfl) rfl #[.agg #[.int .u64 t580, .int .u64 t581], .int .u64 t586] rfl (by (try simp only [List.map_toArray, List.map_cons, List.map_nil]); first | done | rfl) ?_; (with_reducible refine (span_UIn.calls t580 t581 t586 true _ A30.out).mono ?_); rintro e w50 ⟨rfl, hb⟩; refine ⟨_, rfl, ?_⟩; replace BK578 := bb_ hb BK578; replace BK579 := bb_ hb BK579; replace BK584 := bb_ hb BK584; replace BK585 := bb_ hb BK585; replace HB := bl_ hb; (try clear hb); (try clear hb2); (try clear hk); (try clear hi); have hcz51_0 := c0_ BK584; have hcz51_1 := c1_ BK584; have hfz51_0 := fz_ BK584 0; have hfz51_1 := fz_ BK584 1; have hnb52 := NB585_578.out; have hnc52 := NB578_585.out; have hnb53 := NB585_579.out; have hnc53 := NB579_585.out; have hcz54_0 := c0_ BK585; have hcz54_1 := c1_ BK585; have hfz54_0 := fz_ BK585 0; have hfz54_1 := fz_ BK585 1) | (go_at_call 43; (with_reducible refine (span_UAdd.calls t580 t581 t582 t583 t589 t590 _ A32.out).mono ?_); rintro e w55 ⟨rfl, hb⟩; replace BK578 := bb_ hb BK578; replace BK579 := bb_ hb BK579; replace BK584 := bb_ hb BK584; replace BK585 := bb_ hb BK585; replace HB := bl_ hb; (try clear hb); (try clear hb2); (try clear hk); (try clear hi)) | (go_at_call 15; (with_reducible refine (span_UIn.calls t589 t590 (IntKind.u64.wrap (t586 + t587)) true _ A33.out).mono ?_); rintro e w56 ⟨rfl, hb⟩; replace BK578 := bb_ hb BK578; replace BK579 := bb_ hb BK579; replace BK584 := bb_ hb BK584; replace BK585 := bb_ hb BK585; replace HB := bl_ hb; (try clear hb); (try clear hb2); (try clear hk); (try clear hi); have hcz57_0 := c0_ BK584; have hcz57_1 := c1_ BK584; have hfz57_0 := fz_ BK584 0; have hfz57_1 := fz_ BK584 1; have hcz58_0 := c0_ BK585; have hcz58_1 := c1_ BK585; have hfz58_0 := fz_ BK585 0; have hfz58_1 := fz_ BK585 1) | (go_at_call 44; (with_reducible refine (span_USub.calls t580 t581 t582 t583 t592 t593 _ A35.out).mono ?_); rintro e w59 ⟨rfl, hb⟩; replace BK578 := bb_ hb BK578; replace BK579 := bb_ hb BK579; replace BK584 := bb_ hb BK584; replace BK585 := bb_ hb BK585; replace HB := bl_ hb; (try clear hb); (try clear hb2); (try clear hk); (try clear hi)) | (go_at_call 15; (with_reducible refine (span_UIn.calls t592 t593 (IntKind.u64.wrap (t586 - t587)) true _ A36.out).mono ?_); rintro e w60 ⟨rfl, hb⟩; replace BK578 := bb_ hb BK578; replace BK579 := bb_ hb BK579; replace BK584 := bb_ hb BK584; replace BK585 := bb_ hb BK585; replace HB := bl_ hb; (try clear hb); (try clear hb2); (try clear hk); (try clear hi); have hcz61_0 := c0_ BK584; have hcz61_1 := c1_ BK584; have hfz61_0 := fz_ BK584 0; have hfz61_1 := fz_ BK584 1; have hcz62_0 := c0_ BK585; have hcz62_1 := c1_ BK585; have hfz62_0 := fz_ BK585 0; have hfz62_1 := fz_ BK585 1) | (go_at_call 54; (with_reducible refine (span_UMul.calls t580 t581 t582 t583 t595 t596 _ A38.out).mono ?_); rintro e w63 ⟨rfl, hb⟩; replace BK578 := bb_ hb BK578; replace BK579 := bb_ hb BK579; replace BK584 := bb_ hb BK584; replace BK585 := bb_ hb BK585; replace HB := bl_ hb; (try clear hb); (try clear hb2); (try clear hk); (try clear hi)) | (go_at_call 15; (with_reducible refine (span_UIn.calls t595 t596 (IntKind.u64.wrap (t586 * t587)) true _ A39.out).mono ?_); rintro e w64 ⟨rfl, hb⟩; replace BK578 := bb_ hb BK578; replace BK579 := bb_ hb BK579; replace BK584 := bb_ hb BK584; replace BK585 := bb_ hb BK585; replace HB := bl_ hb; (try clear hb); (try clear hb2); (try clear hk); (try clear hi); have hcz65_0 := c0_ BK584; have hcz65_1 := c1_ BK584; have hfz65_0 := fz_ BK584 0; have hfz65_1 := fz_ BK584 1; have hcz66_0 := c0_ BK585; have hcz66_1 := c1_ BK585; have hfz66_0 := fz_ BK585 0; have hfz66_1 := fz_ BK585 1) | (go_at_call 51; (with_reducible refine (span_UDiv.calls t580 t581 t582 t583 t598 t599 _ A41.out).mono ?_); rintro e w67 ⟨rfl, hb⟩; replace BK578 := bb_ hb BK578; replace BK579 := bb_ hb BK579; replace BK584 := bb_ hb BK584; replace BK585 := bb_ hb BK585; replace HB := bl_ hb; (try clear hb); (try clear hb2); (try clear hk); (try clear hi)) | (go_at_call 15; (with_reducible refine (span_UIn.calls t598 t599 x15_8 true _ A42.out).mono ?_); rintro e w68 ⟨rfl, hb⟩; replace BK578 := bb_ hb BK578; replace BK579 := bb_ hb BK579; replace BK584 := bb_ hb BK584; replace BK585 := bb_ hb BK585; replace HB := bl_ hb; (try clear hb); (try clear hb2); (try clear hk); (try clear hi); have hcz69_0 := c0_ BK584; have hcz69_1 := c1_ BK584; have hfz69_0 := fz_ BK584 0; have hfz69_1 := fz_ BK584 1; have hcz70_0 := c0_ BK585; have hcz70_1 := c1_ BK585; have hfz70_0 := fz_ BK585 0; have hfz70_1 := fz_ BK585 1) | (go_at_call 52; (with_reducible refine (span_UMod.calls kj8 t580 t581 t582 t583 t601 t602 _ A44.out).mono ?_); rintro e w71 ⟨rfl, hb⟩; replace BK578 := bb_ hb BK578; replace BK579 := bb_ hb BK579; replace BK584 := bb_ hb BK584; replace BK585 := bb_ hb BK585; replace HB := bl_ hb; (try clear hb); (try clear hb2); (try clear hk); (try clear hi)) | (go_at_call 15; (with_reducible refine (span_UIn.calls t601 t602 x16_8 t603 _ A45.out).mono ?_); rintro e w72 ⟨rfl, hb⟩; replace BK578 := bb_ hb BK578; replace BK579 := bb_ hb BK579; replace BK584 := bb_ hb BK584; replace BK585 := bb_ hb BK585; replace HB := bl_ hb; (try clear hb); (try clear hb2); (try clear hk); (try clear hi)))
         go_meet
         case rel => exact ⟨_, (!t603), (by first | rfl | (simp; done) | (simp [*]; done)), H', ⟨by have := HJ8.out; first | omega | exact Nat.le_refl _⟩, ⟨by exact bk_⟩, ⟨by exact bk_⟩, ⟨by exact bk_⟩, ⟨by exact bk_⟩, ⟨by repeat (first | (with_reducible first | exact HB.out | apply lA_ | apply lN_ | apply lD_ | refine lS_ ?_ GE578.out | refine lS_ ?_ GE579.out | refine lS_ ?_ GE584.out | refine lS_ ?_ GE585.out) | exact HB.out)⟩⟩
        ·replace c43 := Bool.eq_false_iff.mpr c43
         subst c43
         have H1 : (lockgatelaw04_SpanSound.j1 kj8 a2 t586 t587 (IntKind.u64.wrap (Go.bits .and .i64 a2 63)) true t580 t581 t582 t583) = some r := by rw [if_neg (show ¬ (false = true) by decide)] at H; exact H
         clear H
         have H := H1
         clear H1
         exfalso
         cases kj8 with
         | zero => rw [lockgatelaw04_SpanSound.j1] at H; exact nomatch H
         | succ q_ => rw [lockgatelaw04_SpanSound.j1, if_pos rfl] at H; exact absurd ((Option.some.inj H).trans HRT.out) (by decide)
       ·replace c40 := Bool.eq_false_iff.mpr c40
        subst c40
        have H1 : (lockgatelaw04_SpanSound.j1 kj8 a2 t586 t587 (IntKind.u64.wrap (Go.bits .and .i64 a2 63)) true t580 t581 t582 t583) = some r := by rw [if_neg (show ¬ (false = true) by decide)] at H; exact H
        clear H
        have H := H1
        clear H1
        exfalso
        cases kj8 with
        | zero => rw [lockgatelaw04_SpanSound.j1] at H; exact nomatch H
        | succ q_ => rw [lockgatelaw04_SpanSound.j1, if_pos rfl] at H; exact absurd ((Option.some.inj H).trans HRT.out) (by decide)
      ·replace c37 := Bool.eq_false_iff.mpr c37
       subst c37
       have H1 : (lockgatelaw04_SpanSound.j1 kj8 a2 t586 t587 (IntKind.u64.wrap (Go.bits .and .i64 a2 63)) true t580 t581 t582 t583) = some r := by rw [if_neg (show ¬ (false = true) by decide)] at H; exact H
       clear H
       have H := H1
       clear H1
       exfalso
       cases kj8 with
       | zero => rw [lockgatelaw04_SpanSound.j1] at H; exact nomatch H
       | succ q_ => rw [lockgatelaw04_SpanSound.j1, if_pos rfl] at H; exact absurd ((Option.some.inj H).trans HRT.out) (by decide)
     ·replace c34 := Bool.eq_false_iff.mpr c34
      subst c34
      have H1 : (lockgatelaw04_SpanSound.j1 kj8 a2 t586 t587 (IntKind.u64.wrap (Go.bits .and .i64 a2 63)) true t580 t581 t582 t583) = some r := by rw [if_neg (show ¬ (false = true) by decide)] at H; exact H
      clear H
      have H := H1
      clear H1
      exfalso
      cases kj8 with
      | zero => rw [lockgatelaw04_SpanSound.j1] at H; exact nomatch H
      | succ q_ => rw [lockgatelaw04_SpanSound.j1, if_pos rfl] at H; exact absurd ((Option.some.inj H).trans HRT.out) (by decide)
    ·replace c31 := Bool.eq_false_iff.mpr c31
     subst c31
     have H1 : (lockgatelaw04_SpanSound.j1 kj8 a2 t586 t587 (IntKind.u64.wrap (Go.bits .and .i64 a2 63)) true t580 t581 t582 t583) = some r := by rw [if_neg (show ¬ (false = true) by decide)] at H; exact H
     clear H
     have H := H1
     clear H1
     exfalso
     cases kj8 with
     | zero => rw [lockgatelaw04_SpanSound.j1] at H; exact nomatch H
     | succ q_ => rw [lockgatelaw04_SpanSound.j1, if_pos rfl] at H; exact absurd ((Option.some.inj H).trans HRT.out) (by decide)
   case rest =>
    clear HC29
    try clear c1
    try clear c2
    try clear p2
    try clear c3
    try clear c4
    try clear c5
    try clear c9
    try clear c12
    try clear c15
    try clear c18
    try clear c19
    try clear c20
    try clear c22
    try clear c23
    try clear c28
    try clear c28b0
    try clear c28b1
    try clear c31
    try clear c34
    try clear c37
    try clear c40
    try clear c43
    try clear c46
    try clear c47
    try clear c48
    try clear c52
    try clear c53
    try clear hcz13_0
    try clear hcz13_1
    try clear hcz14_0
    try clear hcz14_1
    try clear hcz21_0
    try clear hcz21_1
    try clear hcz24_0
    try clear hcz24_1
    try clear hcz26_0
    try clear hcz26_1
    try clear hcz49_0
    try clear hcz49_1
    try clear hcz51_0
    try clear hcz51_1
    try clear hcz54_0
    try clear hcz54_1
    try clear hcz57_0
    try clear hcz57_1
    try clear hcz58_0
    try clear hcz58_1
    try clear hcz61_0
    try clear hcz61_1
    try clear hcz62_0
    try clear hcz62_1
    try clear hcz65_0
    try clear hcz65_1
    try clear hcz66_0
    try clear hcz66_1
    try clear hcz69_0
    try clear hcz69_1
    try clear hcz70_0
    try clear hcz70_1
    try clear hfz13_0
    try clear hfz13_1
    try clear hfz14_0
    try clear hfz14_1
    try clear hfz21_0
    try clear hfz21_1
    try clear hfz24_0
    try clear hfz24_1
    try clear hfz26_0
    try clear hfz26_1
    try clear hfz49_0
    try clear hfz49_1
    try clear hfz51_0
    try clear hfz51_1
    try clear hfz54_0
    try clear hfz54_1
    try clear hfz57_0
    try clear hfz57_1
    try clear hfz58_0
    try clear hfz58_1
    try clear hfz61_0
    try clear hfz61_1
    try clear hfz62_0
    try clear hfz62_1
    try clear hfz65_0
    try clear hfz65_1
    try clear hfz66_0
    try clear hfz66_1
    try clear hfz69_0
    try clear hfz69_1
    try clear hfz70_0
    try clear hfz70_1
    try clear p2
    obtain ⟨kq, x92_28, rfl, HA, HJ28, BK578, BK579, BK584, BK585, HB⟩ := hcut
    cases kq with
    | zero => exact absurd HA.out (by simp [lockgatelaw04_SpanSound.j1])
    | succ kj28 =>
     have H := HA.out
     clear HA
     simp only [lockgatelaw04_SpanSound.j1] at H
     by_cases c73 : x92_28 = true
     ·subst c73
      have H1 : (some false) = some r := by rw [if_pos rfl] at H; exact H
      clear H
      have H := H1
      clear H1
      exact absurd ((Option.some.inj H).trans HRT.out) (by decide)
     ·replace c73 := Bool.eq_false_iff.mpr c73
      subst c73
      have H1 : ((span_UAnd.f t580 t581 t582 t583).bind fun bt604 => ((span_UIn.f bt604.1 bt604.2 (Go.bits .and .u64 t586 t587)).bind fun t606 => (if t606 = true then ((span_UOr.f kj28 t580 t581 t582 t583).bind fun bt607 => ((span_UIn.f bt607.1 bt607.2 (Go.bits .or .u64 t586 t587)).bind fun t609 => (if t609 = true then ((span_ULsh.f t580 t581 a2).bind fun bt610 => (if 0 ≤ (IntKind.u64.wrap (Go.bits .and .i64 a2 63)) then ((span_UIn.f bt610.1 bt610.2 (shl .u64 t586 (IntKind.u64.wrap (Go.bits .and .i64 a2 63)))).bind fun t612 => (if t612 = true then ((span_URsh.f t580 t581 a2).bind fun bt613 => ((span_UIn.f bt613.1 bt613.2 (shr .u64 t586 (IntKind.u64.wrap (Go.bits .and .i64 a2 63)))).bind fun t615 => (if t615 = true then ((span_UCut.f t580 t581).bind fun bt616 => ((span_UIn.f bt616.1 bt616.2 (Int.tmod t586 4294967296)).bind fun t618 => (if t618 = true then ((span_ToS.f t580 t581).bind fun bt619 => ((span_SIn.f bt619.1 bt619.2 t586).bind fun t621 => (lockgatelaw04_SpanSound.j2 kj28 t586 (!t621) t580 t581))) else (lockgatelaw04_SpanSound.j2 kj28 t586 true t580 t581)))) else (lockgatelaw04_SpanSound.j2 kj28 t586 true t580 t581)))) else (lockgatelaw04_SpanSound.j2 kj28 t586 true t580 t581))) else (none))) else (lockgatelaw04_SpanSound.j2 kj28 t586 true t580 t581)))) else (lockgatelaw04_SpanSound.j2 kj28 t586 true t580 t581)))) = some r := by rw [if_neg (show ¬ (false = true) by decide)] at H; exact H
      clear H
      have H := H1
      clear H1
      have HC74 := Aside0.mk H
      clear H
      go_upto_region 12 with (fail)
      go_cut [145] (fun v145 wc => ∃ (kq : Nat) (x145_73 : Bool), v145 = .bool x145_73 ∧ Aside0 (lockgatelaw04_SpanSound.j2 kq t586 x145_73 t580 t581 = some r) ∧ Aside0 (kq ≤ kj28) ∧ Aside0 (wc.heap[gb578]? = some (.cells #[.int .u64 a0_0, .int .u64 a0_1] 26 (0, 0))) ∧ Aside0 (wc.heap[gb579]? = some (.cells #[.int .u64 a1_0, .int .u64 a1_1] 26 (0, 0))) ∧ Aside0 (wc.heap[gb584]? = some (.cells #[.int .u64 t580, .int .u64 t581] 26 (0, 0))) ∧ Aside0 (wc.heap[gb585]? = some (.cells #[.int .u64 t582, .int .u64 t583] 26 (0, 0))) ∧ Aside0 (Below w.heap.size w wc))
      case first =>
       have H := HC74.out
       clear HC74
       replace H := Option.bind_eq_some_iff.mp H
       obtain ⟨⟨t604, t605⟩, A750, H⟩ := H
       replace H : ((span_UIn.f t604 t605 (Go.bits .and .u64 t586 t587)).bind fun t606 => (if t606 = true then ((span_UOr.f kj28 t580 t581 t582 t583).bind fun bt607 => ((span_UIn.f bt607.1 bt607.2 (Go.bits .or .u64 t586 t587)).bind fun t609 => (if t609 = true then ((span_ULsh.f t580 t581 a2).bind fun bt610 => (if 0 ≤ (IntKind.u64.wrap (Go.bits .and .i64 a2 63)) then ((span_UIn.f bt610.1 bt610.2 (shl .u64 t586 (IntKind.u64.wrap (Go.bits .and .i64 a2 63)))).bind fun t612 => (if t612 = true then ((span_URsh.f t580 t581 a2).bind fun bt613 => ((span_UIn.f bt613.1 bt613.2 (shr .u64 t586 (IntKind.u64.wrap (Go.bits .and .i64 a2 63)))).bind fun t615 => (if t615 = true then ((span_UCut.f t580 t581).bind fun bt616 => ((span_UIn.f bt616.1 bt616.2 (Int.tmod t586 4294967296)).bind fun t618 => (if t618 = true then ((span_ToS.f t580 t581).bind fun bt619 => ((span_SIn.f bt619.1 bt619.2 t586).bind fun t621 => (lockgatelaw04_SpanSound.j2 kj28 t586 (!t621) t580 t581))) else (lockgatelaw04_SpanSound.j2 kj28 t586 true t580 t581)))) else (lockgatelaw04_SpanSound.j2 kj28 t586 true t580 t581)))) else (lockgatelaw04_SpanSound.j2 kj28 t586 true t580 t581))) else (none))) else (lockgatelaw04_SpanSound.j2 kj28 t586 true t580 t581)))) else (lockgatelaw04_SpanSound.j2 kj28 t586 true t580 t581))) = some r := H
       have A75 := Aside0.mk A750
       clear A750
       replace H := Option.bind_eq_some_iff.mp H
       obtain ⟨t606, A760, H⟩ := H
       replace H : (if t606 = true then ((span_UOr.f kj28 t580 t581 t582 t583).bind fun bt607 => ((span_UIn.f bt607.1 bt607.2 (Go.bits .or .u64 t586 t587)).bind fun t609 => (if t609 = true then ((span_ULsh.f t580 t581 a2).bind fun bt610 => (if 0 ≤ (IntKind.u64.wrap (Go.bits .and .i64 a2 63)) then ((span_UIn.f bt610.1 bt610.2 (shl .u64 t586 (IntKind.u64.wrap (Go.bits .and .i64 a2 63)))).bind fun t612 => (if t612 = true then ((span_URsh.f t580 t581 a2).bind fun bt613 => ((span_UIn.f bt613.1 bt613.2 (shr .u64 t586 (IntKind.u64.wrap (Go.bits .and .i64 a2 63)))).bind fun t615 => (if t615 = true then ((span_UCut.f t580 t581).bind fun bt616 => ((span_UIn.f bt616.1 bt616.2 (Int.tmod t586 4294967296)).bind fun t618 => (if t618 = true then ((span_ToS.f t580 t581).bind fun bt619 => ((span_SIn.f bt619.1 bt619.2 t586).bind fun t621 => (lockgatelaw04_SpanSound.j2 kj28 t586 (!t621) t580 t581))) else (lockgatelaw04_SpanSound.j2 kj28 t586 true t580 t581)))) else (lockgatelaw04_SpanSound.j2 kj28 t586 true t580 t581)))) else (lockgatelaw04_SpanSound.j2 kj28 t586 true t580 t581))) else (none))) else (lockgatelaw04_SpanSound.j2 kj28 t586 true t580 t581)))) else (lockgatelaw04_SpanSound.j2 kj28 t586 true t580 t581)) = some r := H
       have A76 := Aside0.mk A760
       clear A760
       by_cases c77 : t606 = true
       ·subst c77
        have H1 : ((span_UOr.f kj28 t580 t581 t582 t583).bind fun bt607 => ((span_UIn.f bt607.1 bt607.2 (Go.bits .or .u64 t586 t587)).bind fun t609 => (if t609 = true then ((span_ULsh.f t580 t581 a2).bind fun bt610 => (if 0 ≤ (IntKind.u64.wrap (Go.bits .and .i64 a2 63)) then ((span_UIn.f bt610.1 bt610.2 (shl .u64 t586 (IntKind.u64.wrap (Go.bits .and .i64 a2 63)))).bind fun t612 => (if t612 = true then ((span_URsh.f t580 t581 a2).bind fun bt613 => ((span_UIn.f bt613.1 bt613.2 (shr .u64 t586 (IntKind.u64.wrap (Go.bits .and .i64 a2 63)))).bind fun t615 => (if t615 = true then ((span_UCut.f t580 t581).bind fun bt616 => ((span_UIn.f bt616.1 bt616.2 (Int.tmod t586 4294967296)).bind fun t618 => (if t618 = true then ((span_ToS.f t580 t581).bind fun bt619 => ((span_SIn.f bt619.1 bt619.2 t586).bind fun t621 => (lockgatelaw04_SpanSound.j2 kj28 t586 (!t621) t580 t581))) else (lockgatelaw04_SpanSound.j2 kj28 t586 true t580 t581)))) else (lockgatelaw04_SpanSound.j2 kj28 t586 true t580 t581)))) else (lockgatelaw04_SpanSound.j2 kj28 t586 true t580 t581))) else (none))) else (lockgatelaw04_SpanSound.j2 kj28 t586 true t580 t581)))) = some r := by rw [if_pos rfl] at H; exact H
        clear H
        have H := H1
        clear H1
        replace H := Option.bind_eq_some_iff.mp H
        obtain ⟨⟨t607, t608⟩, A780, H⟩ := H
        replace H : ((span_UIn.f t607 t608 (Go.bits .or .u64 t586 t587)).bind fun t609 => (if t609 = true then ((span_ULsh.f t580 t581 a2).bind fun bt610 => (if 0 ≤ (IntKind.u64.wrap (Go.bits .and .i64 a2 63)) then ((span_UIn.f bt610.1 bt610.2 (shl .u64 t586 (IntKind.u64.wrap (Go.bits .and .i64 a2 63)))).bind fun t612 => (if t612 = true then ((span_URsh.f t580 t581 a2).bind fun bt613 => ((span_UIn.f bt613.1 bt613.2 (shr .u64 t586 (IntKind.u64.wrap (Go.bits .and .i64 a2 63)))).bind fun t615 => (if t615 = true then ((span_UCut.f t580 t581).bind fun bt616 => ((span_UIn.f bt616.1 bt616.2 (Int.tmod t586 4294967296)).bind fun t618 => (if t618 = true then ((span_ToS.f t580 t581).bind fun bt619 => ((span_SIn.f bt619.1 bt619.2 t586).bind fun t621 => (lockgatelaw04_SpanSound.j2 kj28 t586 (!t621) t580 t581))) else (lockgatelaw04_SpanSound.j2 kj28 t586 true t580 t581)))) else (lockgatelaw04_SpanSound.j2 kj28 t586 true t580 t581)))) else (lockgatelaw04_SpanSound.j2 kj28 t586 true t580 t581))) else (none))) else (lockgatelaw04_SpanSound.j2 kj28 t586 true t580 t581))) = some r := H
        have A78 := Aside0.mk A780
        clear A780
        replace H := Option.bind_eq_some_iff.mp H
        obtain ⟨t609, A790, H⟩ := H
        replace H : (if t609 = true then ((span_ULsh.f t580 t581 a2).bind fun bt610 => (if 0 ≤ (IntKind.u64.wrap (Go.bits .and .i64 a2 63)) then ((span_UIn.f bt610.1 bt610.2 (shl .u64 t586 (IntKind.u64.wrap (Go.bits .and .i64 a2 63)))).bind fun t612 => (if t612 = true then ((span_URsh.f t580 t581 a2).bind fun bt613 => ((span_UIn.f bt613.1 bt613.2 (shr .u64 t586 (IntKind.u64.wrap (Go.bits .and .i64 a2 63)))).bind fun t615 => (if t615 = true then ((span_UCut.f t580 t581).bind fun bt616 => ((span_UIn.f bt616.1 bt616.2 (Int.tmod t586 4294967296)).bind fun t618 => (if t618 = true then ((span_ToS.f t580 t581).bind fun bt619 => ((span_SIn.f bt619.1 bt619.2 t586).bind fun t621 => (lockgatelaw04_SpanSound.j2 kj28 t586 (!t621) t580 t581))) else (lockgatelaw04_SpanSound.j2 kj28 t586 true t580 t581)))) else (lockgatelaw04_SpanSound.j2 kj28 t586 true t580 t581)))) else (lockgatelaw04_SpanSound.j2 kj28 t586 true t580 t581))) else (none))) else (lockgatelaw04_SpanSound.j2 kj28 t586 true t580 t581)) = some r := H
        have A79 := Aside0.mk A790
        clear A790
        by_cases c80 : t609 = true
        ·subst c80
         have H1 : ((span_ULsh.f t580 t581 a2).bind fun bt610 => (if 0 ≤ (IntKind.u64.wrap (Go.bits .and .i64 a2 63)) then ((span_UIn.f bt610.1 bt610.2 (shl .u64 t586 (IntKind.u64.wrap (Go.bits .and .i64 a2 63)))).bind fun t612 => (if t612 = true then ((span_URsh.f t580 t581 a2).bind fun bt613 => ((span_UIn.f bt613.1 bt613.2 (shr .u64 t586 (IntKind.u64.wrap (Go.bits .and .i64 a2 63)))).bind fun t615 => (if t615 = true then ((span_UCut.f t580 t581).bind fun bt616 => ((span_UIn.f bt616.1 bt616.2 (Int.tmod t586 4294967296)).bind fun t618 => (if t618 = true then ((span_ToS.f t580 t581).bind fun bt619 => ((span_SIn.f bt619.1 bt619.2 t586).bind fun t621 => (lockgatelaw04_SpanSound.j2 kj28 t586 (!t621) t580 t581))) else (lockgatelaw04_SpanSound.j2 kj28 t586 true t580 t581)))) else (lockgatelaw04_SpanSound.j2 kj28 t586 true t580 t581)))) else (lockgatelaw04_SpanSound.j2 kj28 t586 true t580 t581))) else (none))) = some r := by rw [if_pos rfl] at H; exact H
         clear H
         have H := H1
         clear H1
         replace H := Option.bind_eq_some_iff.mp H
         obtain ⟨⟨t610, t611⟩, A810, H⟩ := H
         replace H : (if 0 ≤ (IntKind.u64.wrap (Go.bits .and .i64 a2 63)) then ((span_UIn.f t610 t611 (shl .u64 t586 (IntKind.u64.wrap (Go.bits .and .i64 a2 63)))).bind fun t612 => (if t612 = true then ((span_URsh.f t580 t581 a2).bind fun bt613 => ((span_UIn.f bt613.1 bt613.2 (shr .u64 t586 (IntKind.u64.wrap (Go.bits .and .i64 a2 63)))).bind fun t615 => (if t615 = true then ((span_UCut.f t580 t581).bind fun bt616 => ((span_UIn.f bt616.1 bt616.2 (Int.tmod t586 4294967296)).bind fun t618 => (if t618 = true then ((span_ToS.f t580 t581).bind fun bt619 => ((span_SIn.f bt619.1 bt619.2 t586).bind fun t621 => (lockgatelaw04_SpanSound.j2 kj28 t586 (!t621) t580 t581))) else (lockgatelaw04_SpanSound.j2 kj28 t586 true t580 t581)))) else (lockgatelaw04_SpanSound.j2 kj28 t586 true t580 t581)))) else (lockgatelaw04_SpanSound.j2 kj28 t586 true t580 t581))) else (none)) = some r := H
         have A81 := Aside0.mk A810
         clear A810
         obtain ⟨ji82, hji82⟩ : ∃ j_ : Int, (IntKind.u64.wrap (Go.bits .and .i64 a2 63)) = j_ := ⟨_, rfl⟩
         replace H : (if 0 ≤ (ji82) then ((span_UIn.f t610 t611 (shl .u64 t586 (ji82))).bind fun t612 => (if t612 = true then ((span_URsh.f t580 t581 a2).bind fun bt613 => ((span_UIn.f bt613.1 bt613.2 (shr .u64 t586 (ji82))).bind fun t615 => (if t615 = true then ((span_UCut.f t580 t581).bind fun bt616 => ((span_UIn.f bt616.1 bt616.2 (Int.tmod t586 4294967296)).bind fun t618 => (if t618 = true then ((span_ToS.f t580 t581).bind fun bt619 => ((span_SIn.f bt619.1 bt619.2 t586).bind fun t621 => (lockgatelaw04_SpanSound.j2 kj28 t586 (!t621) t580 t581))) else (lockgatelaw04_SpanSound.j2 kj28 t586 true t580 t581)))) else (lockgatelaw04_SpanSound.j2 kj28 t586 true t580 t581)))) else (lockgatelaw04_SpanSound.j2 kj28 t586 true t580 t581))) else (none)) = some r := by first | (rw [hji82] at H; exact H) | (simp only [hji82] at H ⊢; exact H)
         (try rw [hji82] at A75)
         (try rw [hji82] at A76)
         (try rw [hji82] at A78)
         (try rw [hji82] at A79)
         (try rw [hji82] at A81)
         by_cases c83 : 0 ≤ (ji82)
         ·rw [if_pos c83] at H
          have c83b0 := eq_true c83
          have c83b1 : decide (0 ≤ (ji82)) = true := decide_eq_true c83
          clear c83
          obtain ⟨ji84, hji84⟩ : ∃ j_ : Int, (shl .u64 t586 (ji82)) = j_ := ⟨_, rfl⟩
          replace H : ((span_UIn.f t610 t611 (ji84)).bind fun t612 => (if t612 = true then ((span_URsh.f t580 t581 a2).bind fun bt613 => ((span_UIn.f bt613.1 bt613.2 (shr .u64 t586 (ji82))).bind fun t615 => (if t615 = true then ((span_UCut.f t580 t581).bind fun bt616 => ((span_UIn.f bt616.1 bt616.2 (Int.tmod t586 4294967296)).bind fun t618 => (if t618 = true then ((span_ToS.f t580 t581).bind fun bt619 => ((span_SIn.f bt619.1 bt619.2 t586).bind fun t621 => (lockgatelaw04_SpanSound.j2 kj28 t586 (!t621) t580 t581))) else (lockgatelaw04_SpanSound.j2 kj28 t586 true t580 t581)))) else (lockgatelaw04_SpanSound.j2 kj28 t586 true t580 t581)))) else (lockgatelaw04_SpanSound.j2 kj28 t586 true t580 t581))) = some r := by first | (rw [hji84] at H; exact H) | (simp only [hji84] at H ⊢; exact H)
          (try rw [hji84] at A75)
          (try rw [hji84] at A76)
          (try rw [hji84] at A78)
          (try rw [hji84] at A79)
          (try rw [hji84] at A81)
          have hji84_ : (IntKind.u64.wrap (t586 * 2 ^ min (ji82).toNat 64)) = ji84 := hji84
          have hji84z : (ji82) ≤ 64 → (IntKind.u64.wrap (t586 * 2 ^ (ji82).toNat)) = ji84 := shl_small hji84
          replace H := Option.bind_eq_some_iff.mp H
          obtain ⟨t612, A850, H⟩ := H
          replace H : (if t612 = true then ((span_URsh.f t580 t581 a2).bind fun bt613 => ((span_UIn.f bt613.1 bt613.2 (shr .u64 t586 (ji82))).bind fun t615 => (if t615 = true then ((span_UCut.f t580 t581).bind fun bt616 => ((span_UIn.f bt616.1 bt616.2 (Int.tmod t586 4294967296)).bind fun t618 => (if t618 = true then ((span_ToS.f t580 t581).bind fun bt619 => ((span_SIn.f bt619.1 bt619.2 t586).bind fun t621 => (lockgatelaw04_SpanSound.j2 kj28 t586 (!t621) t580 t581))) else (lockgatelaw04_SpanSound.j2 kj28 t586 true t580 t581)))) else (lockgatelaw04_SpanSound.j2 kj28 t586 true t580 t581)))) else (lockgatelaw04_SpanSound.j2 kj28 t586 true t580 t581)) = some r := H
          have A85 := Aside0.mk A850
          clear A850
          by_cases c86 : t612 = true
          ·subst c86
           have H1 : ((span_URsh.f t580 t581 a2).bind fun bt613 => ((span_UIn.f bt613.1 bt613.2 (shr .u64 t586 (ji82))).bind fun t615 => (if t615 = true then ((span_UCut.f t580 t581).bind fun bt616 => ((span_UIn.f bt616.1 bt616.2 (Int.tmod t586 4294967296)).bind fun t618 => (if t618 = true then ((span_ToS.f t580 t581).bind fun bt619 => ((span_SIn.f bt619.1 bt619.2 t586).bind fun t621 => (lockgatelaw04_SpanSound.j2 kj28 t586 (!t621) t580 t581))) else (lockgatelaw04_SpanSound.j2 kj28 t586 true t580 t581)))) else (lockgatelaw04_SpanSound.j2 kj28 t586 true t580 t581)))) = some r := by rw [if_pos rfl] at H; exact H
           clear H
           have H := H1
           clear H1
           replace H := Option.bind_eq_some_iff.mp H
           obtain ⟨⟨t613, t614⟩, A870, H⟩ := H
           replace H : ((span_UIn.f t613 t614 (shr .u64 t586 (ji82))).bind fun t615 => (if t615 = true then ((span_UCut.f t580 t581).bind fun bt616 => ((span_UIn.f bt616.1 bt616.2 (Int.tmod t586 4294967296)).bind fun t618 => (if t618 = true then ((span_ToS.f t580 t581).bind fun bt619 => ((span_SIn.f bt619.1 bt619.2 t586).bind fun t621 => (lockgatelaw04_SpanSound.j2 kj28 t586 (!t621) t580 t581))) else (lockgatelaw04_SpanSound.j2 kj28 t586 true t580 t581)))) else (lockgatelaw04_SpanSound.j2 kj28 t586 true t580 t581))) = some r := H
           have A87 := Aside0.mk A870
           clear A870
           have c88b0 := eq_true (of_decide_eq_true (by first | (with_reducible assumption) | assumption) : 0 ≤ (ji82))
           obtain ⟨ji89, hji89⟩ : ∃ j_ : Int, (shr .u64 t586 (ji82)) = j_ := ⟨_, rfl⟩
           replace H : ((span_UIn.f t613 t614 (ji89)).bind fun t615 => (if t615 = true then ((span_UCut.f t580 t581).bind fun bt616 => ((span_UIn.f bt616.1 bt616.2 (Int.tmod t586 4294967296)).bind fun t618 => (if t618 = true then ((span_ToS.f t580 t581).bind fun bt619 => ((span_SIn.f bt619.1 bt619.2 t586).bind fun t621 => (lockgatelaw04_SpanSound.j2 kj28 t586 (!t621) t580 t581))) else (lockgatelaw04_SpanSound.j2 kj28 t586 true t580 t581)))) else (lockgatelaw04_SpanSound.j2 kj28 t586 true t580 t581))) = some r := by first | (rw [hji89] at H; exact H) | (simp only [hji89] at H ⊢; exact H)
           (try rw [hji89] at A75)
           (try rw [hji89] at A76)
           (try rw [hji89] at A78)
           (try rw [hji89] at A79)
           (try rw [hji89] at A81)
           (try rw [hji89] at A85)
           (try rw [hji89] at A87)
           have hji89_ : (t586 / 2 ^ min (ji82).toNat 64) = ji89 := hji89
           have hji89z : (ji82) ≤ 64 → (t586 / 2 ^ (ji82).toNat) = ji89 := shr_small hji89
           replace H := Option.bind_eq_some_iff.mp H
           obtain ⟨t615, A900, H⟩ := H
           replace H : (if t615 = true then ((span_UCut.f t580 t581).bind fun bt616 => ((span_UIn.f bt616.1 bt616.2 (Int.tmod t586 4294967296)).bind fun t618 => (if t618 = true then ((span_ToS.f t580 t581).bind fun bt619 => ((span_SIn.f bt619.1 bt619.2 t586).bind fun t621 => (lockgatelaw04_SpanSound.j2 kj28 t586 (!t621) t580 t581))) else (lockgatelaw04_SpanSound.j2 kj28 t586 true t580 t581)))) else (lockgatelaw04_SpanSound.j2 kj28 t586 true t580 t581)) = some r := H
           have A90 := Aside0.mk A900
           clear A900
           by_cases c91 : t615 = true
           ·subst c91
            have H1 : ((span_UCut.f t580 t581).bind fun bt616 => ((span_UIn.f bt616.1 bt616.2 (Int.tmod t586 4294967296)).bind fun t618 => (if t618 = true then ((span_ToS.f t580 t581).bind fun bt619 => ((span_SIn.f bt619.1 bt619.2 t586).bind fun t621 => (lockgatelaw04_SpanSound.j2 kj28 t586 (!t621) t580 t581))) else (lockgatelaw04_SpanSound.j2 kj28 t586 true t580 t581)))) = some r := by rw [if_pos rfl] at H; exact H
            clear H
            have H := H1
            clear H1
            replace H := Option.bind_eq_some_iff.mp H
            obtain ⟨⟨t616, t617⟩, A920, H⟩ := H
            replace H : ((span_UIn.f t616 t617 (Int.tmod t586 4294967296)).bind fun t618 => (if t618 = true then ((span_ToS.f t580 t581).bind fun bt619 => ((span_SIn.f bt619.1 bt619.2 t586).bind fun t621 => (lockgatelaw04_SpanSound.j2 kj28 t586 (!t621) t580 t581))) else (lockgatelaw04_SpanSound.j2 kj28 t586 true t580 t581))) = some r := H
            have A92 := Aside0.mk A920
            clear A920
            replace H := Option.bind_eq_some_iff.mp H
            obtain ⟨t618, A930, H⟩ := H
            replace H : (if t618 = true then ((span_ToS.f t580 t581).bind fun bt619 => ((span_SIn.f bt619.1 bt619.2 t586).bind fun t621 => (lockgatelaw04_SpanSound.j2 kj28 t586 (!t621) t580 t581))) else (lockgatelaw04_SpanSound.j2 kj28 t586 true t580 t581)) = some r := H
            have A93 := Aside0.mk A930
            clear A930
            by_cases c94 : t618 = true
            ·subst c94
             have H1 : ((span_ToS.f t580 t581).bind fun bt619 => ((span_SIn.f bt619.1 bt619.2 t586).bind fun t621 => (lockgatelaw04_SpanSound.j2 kj28 t586 (!t621) t580 t581))) = some r := by rw [if_pos rfl] at H; exact H
             clear H
             have H := H1
             clear H1
             replace H := Option.bind_eq_some_iff.mp H
             obtain ⟨⟨t619, t620⟩, A950, H⟩ := H
             replace H : ((span_SIn.f t619 t620 t586).bind fun t621 => (lockgatelaw04_SpanSound.j2 kj28 t586 (!t621) t580 t581)) = some r := H
             have A95 := Aside0.mk A950
             clear A950
             replace H := Option.bind_eq_some_iff.mp H
             obtain ⟨t621, A960, H⟩ := H
             replace H : (lockgatelaw04_SpanSound.j2 kj28 t586 (!t621) t580 t581) = some r := H
             have A96 := Aside0.mk A960
             clear A960
             have H' := Aside0.mk H
             clear H
             have hnb97 := NB584_578.out
             have hnc97 := NB578_584.out
             have hnb98 := NB584_579.out
             have hnc98 := NB579_584.out
             have hnb99 := NB584_585.out
             have hnc99 := NB585_584.out
             have hcz100_0 := c0_ BK584
             have hcz100_1 := c1_ BK584
             have hfz100_0 := fz_ BK584 0
             have hfz100_1 := fz_ BK584 1
             have hnb101 := NB585_578.out
             have hnc101 := NB578_585.out
             have hnb102 := NB585_579.out
             have hnc102 := NB579_585.out
             have hcz103_0 := c0_ BK585
             have hcz103_1 := c1_ BK585
             have hfz103_0 := fz_ BK585 0
             have hfz103_1 := fz_ BK585 1
             go_wp2_with (first | ((with_reducible refine gate_callee (f := 45) rfl ?_); refine goesL_ (some 95) rfl rfl Try.func45 (by kernel_rfl) rfl #[.agg #[.int .u64 t580, .int .u64 t581], .agg #[.int .u64 t582, .int .u64 t583]] rfl (by (try simp only [List.map_toArray, List.map_cons, List.map_nil]); first | done | rfl) ?_; (with_reducible refine (span_UAnd.calls t580 t581 t582 t583 t604 t605 _ A75.out).mono ?_); rintro e w104 ⟨rfl, hb⟩; refine ⟨_, rfl, ?_⟩; replace BK578 := bb_ hb BK578; replace BK579 := bb_ hb BK579; replace BK584 := bb_ hb BK584; replace BK585 := bb_ hb BK585; replace HB := bl_ hb; (try clear hb); (try clear hb2); (try clear hk); (try clear hi)) | ((with_reducible refine gate_callee (f := 15) rfl ?_); refine goesL_ (some 99) rfl rfl Try.func15 (by kernel_rfl) rfl #[.agg #[.int .u64 t604, .int .u64 t605], .int .u64 (Go.bits .and .u64 t586 t587)] rfl (by (try simp only [List.map_toArray, List.map_cons, List.map_nil]); first | done | rfl) ?_; (with_reducible refine (span_UIn.calls t604 t605 (Go.bits .and .u64 t586 t587) true _ A76.out).mono ?_); rintro e w105 ⟨rfl, hb⟩; refine ⟨_, rfl, ?_⟩; replace BK578 := bb_ hb BK578; replace BK579 := bb_ hb BK579; replace BK584 := bb_ hb BK584; replace BK585 := bb_ hb BK585; replace HB := bl_ hb; (try clear hb); (try clear hb2); (try clear hk); (try clear hi); have hcz106_0 := c0_ BK584; have hcz106_1 := c1_ BK584; have hfz106_0 := fz_ BK584 0; have hfz106_1 := fz_ BK584 1; have hcz107_0 := c0_ BK585; have hcz107_1 := c1_ BK585; have hfz107_0 := fz_ BK585 0; have hfz107_1 := fz_ BK585 1) | (go_at_call 46; (with_reducible refine (span_UOr.calls kj28 t580 t581 t582 t583 t607 t608 _ A78.out).mono ?_); rintro e w108 ⟨rfl, hb⟩; replace BK578 := bb_ hb BK578; replace BK579 := bb_ hb BK579; replace BK584 := bb_ hb BK584; replace BK585 := bb_ hb BK585; replace HB := bl_ hb; (try clear hb); (try clear hb2); (try clear hk); (try clear hi)) | (go_at_call 15; (with_reducible refine (span_UIn.calls t607 t608 (Go.bits .or .u64 t586 t587) true _ A79.out).mono ?_); rintro e w109 ⟨rfl, hb⟩; replace BK578 := bb_ hb BK578; replace BK579 := bb_ hb BK579; replace BK584 := bb_ hb BK584; replace BK585 := bb_ hb BK585; replace HB := bl_ hb; (try clear hb); (try clear hb2); (try clear hk); (try clear hi); have hcz110_0 := c0_ BK584; have hcz110_1 := c1_ BK584; have hfz110_0 := fz_ BK584 0; have hfz110_1 := fz_ BK584 1) | (go_at_call 55; (with_reducible refine (span_ULsh.calls t580 t581 a2 t610 t611 _ A81.out).mono ?_); rintro e w111 ⟨rfl, hb⟩; replace BK578 := bb_ hb BK578; replace BK579 := bb_ hb BK579; replace BK584 := bb_ hb BK584; replace BK585 := bb_ hb BK585; replace HB := bl_ hb; (try clear hb); (try clear hb2); (try clear hk); (try clear hi)) | (go_at_call 15; (with_reducible refine (span_UIn.calls t610 t611 ji84 true _ A85.out).mono ?_); rintro e w112 ⟨rfl, hb⟩; replace BK578 := bb_ hb BK578; replace BK579 := bb_ hb BK579; replace BK584 := bb_ hb BK584; replace BK585 := bb_ hb BK585; replace HB := bl_ hb; (try clear hb); (try clear hb2); (try clear hk); (try clear hi); have hcz113_0 := c0_ BK584; have hcz113_1 := c1_ BK584; have hfz113_0 := fz_ BK584 0; have hfz113_1 := fz_ BK584 1) | (go_at_call 47; (with_reducible refine (span_URsh.calls t580 t581 a2 t613 t614 _ A87.out).mono ?_); rintro e w114 ⟨rfl, hb⟩; replace BK578 := bb_ hb BK578; replace BK579 := bb_ hb BK579; replace BK584 := bb_ hb BK584; replace BK585 := bb_ hb BK585; replace HB := bl_ hb; (try clear hb); (try clear hb2); (try clear hk); (try clear hi)) | (go_at_call 15; (with_reducible refine (span_UIn.calls t613 t614 ji89 true _ A90.out).mono ?_); rintro e w115 ⟨rfl, hb⟩; replace BK578 := bb_ hb BK578; replace BK579 := bb_ hb BK579; replace BK584 := bb_ hb BK584; replace BK585 := bb_ hb BK585; replace HB := bl_ hb; (try clear hb); (try clear hb2); (try clear hk); (try clear hi); have hcz116_0 := c0_ BK584; have hcz116_1 := c1_ BK584; have hfz116_0 := fz_ BK584 0; have hfz116_1 := fz_ BK584 1) | (go_at_call 48; (with_reducible refine (span_UCut.calls t580 t581 t616 t617 _ A92.out).mono ?_); rintro e w117 ⟨rfl, hb⟩; replace BK578 := bb_ hb BK578; replace BK579 := bb_ hb BK579; replace BK584 := bb_ hb BK584; replace BK585 := bb_ hb BK585; replace HB := bl_ hb; (try clear hb); (try clear hb2); (try clear hk); (try clear hi)) | (go_at_call 15; (with_reducible refine (span_UIn.calls t616 t617 (Int.tmod t586 4294967296) true _ A93.out).mono ?_); rintro e w118 ⟨rfl, hb⟩; replace BK578 := bb_ hb BK578; replace BK579 := bb_ hb BK579; replace BK584 := bb_ hb BK584; replace BK585 := bb_ hb BK585; replace HB := bl_ hb; (try clear hb); (try clear hb2); (try clear hk); (try clear hi); have hcz119_0 := c0_ BK584; have hcz119_1 := c1_ BK584; have hfz119_0 := fz_ BK584 0; have hfz119_1 := fz_ BK584 1) | (go_at_call 49; (with_reducible refine (span_ToS.calls t580 t581 t619 t620 _ A95.out).mono ?_); rintro e w120 ⟨rfl, hb⟩; replace BK578 := bb_ hb BK578; replace BK579 := bb_ hb BK579; replace BK584 := bb_ hb BK584; replace BK585 := bb_ hb BK585; replace HB := bl_ hb; (try clear hb); (try clear hb2); (try clear hk); (try clear hi)) | (go_at_call 16; (with_reducible refine (span_SIn.calls t619 t620 t586 t621 _ A96.out).mono ?_); rintro e w121 ⟨rfl, hb⟩; replace BK578 := bb_ hb BK578; replace BK579 := bb_ hb BK579; replace BK584 := bb_ hb BK584; replace BK585 := bb_ hb BK585; replace HB := bl_ hb; (try clear hb); (try clear hb2); (try clear hk); (try clear hi)))
             (first | go_meet | ((try subst hji89); (try subst hji84); (try subst hji82); go_meet))
             case rel => exact ⟨_, (!t621), (by first | rfl | (simp; done) | (simp [*]; done)), H', ⟨by have := HJ8.out; have := HJ28.out; first | omega | exact Nat.le_refl _⟩, ⟨by exact bk_⟩, ⟨by exact bk_⟩, ⟨by exact bk_⟩, ⟨by exact bk_⟩, ⟨by repeat (first | (with_reducible first | exact HB.out | apply lA_ | apply lN_ | apply lD_ | refine lS_ ?_ GE578.out | refine lS_ ?_ GE579.out | refine lS_ ?_ GE584.out | refine lS_ ?_ GE585.out) | exact HB.out)⟩⟩
            ·replace c94 := Bool.eq_false_iff.mpr c94
             subst c94
             have H1 : (lockgatelaw04_SpanSound.j2 kj28 t586 true t580 t581) = some r := by rw [if_neg (show ¬ (false = true) by decide)] at H; exact H
             clear H
             have H := H1
             clear H1
             exfalso
             cases kj28 with
             | zero => rw [lockgatelaw04_SpanSound.j2] at H; exact nomatch H
             | succ q_ => rw [lockgatelaw04_SpanSound.j2, if_pos rfl] at H; exact absurd ((Option.some.inj H).trans HRT.out) (by decide)
           ·replace c91 := Bool.eq_false_iff.mpr c91
            subst c91
            have H1 : (lockgatelaw04_SpanSound.j2 kj28 t586 true t580 t581) = some r := by rw [if_neg (show ¬ (false = true) by decide)] at H; exact H
            clear H
            have H := H1
            clear H1
            exfalso
            cases kj28 with
            | zero => rw [lockgatelaw04_SpanSound.j2] at H; exact nomatch H
            | succ q_ => rw [lockgatelaw04_SpanSound.j2, if_pos rfl] at H; exact absurd ((Option.some.inj H).trans HRT.out) (by decide)
          ·replace c86 := Bool.eq_false_iff.mpr c86
           subst c86
           have H1 : (lockgatelaw04_SpanSound.j2 kj28 t586 true t580 t581) = some r := by rw [if_neg (show ¬ (false = true) by decide)] at H; exact H
           clear H
           have H := H1
           clear H1
           exfalso
           cases kj28 with
           | zero => rw [lockgatelaw04_SpanSound.j2] at H; exact nomatch H
           | succ q_ => rw [lockgatelaw04_SpanSound.j2, if_pos rfl] at H; exact absurd ((Option.some.inj H).trans HRT.out) (by decide)
         ·rw [if_neg c83] at H
          exact absurd H (by simp)
        ·replace c80 := Bool.eq_false_iff.mpr c80
         subst c80
         have H1 : (lockgatelaw04_SpanSound.j2 kj28 t586 true t580 t581) = some r := by rw [if_neg (show ¬ (false = true) by decide)] at H; exact H
         clear H
         have H := H1
         clear H1
         exfalso
         cases kj28 with
         | zero => rw [lockgatelaw04_SpanSound.j2] at H; exact nomatch H
         | succ q_ => rw [lockgatelaw04_SpanSound.j2, if_pos rfl] at H; exact absurd ((Option.some.inj H).trans HRT.out) (by decide)
       ·replace c77 := Bool.eq_false_iff.mpr c77
        subst c77
        have H1 : (lockgatelaw04_SpanSound.j2 kj28 t586 true t580 t581) = some r := by rw [if_neg (show ¬ (false = true) by decide)] at H; exact H
        clear H
        have H := H1
        clear H1
        exfalso
        cases kj28 with
        | zero => rw [lockgatelaw04_SpanSound.j2] at H; exact nomatch H
        | succ q_ => rw [lockgatelaw04_SpanSound.j2, if_pos rfl] at H; exact absurd ((Option.some.inj H).trans HRT.out) (by decide)
      case rest =>
       clear HC74
       try clear c1
       try clear c2
       try clear p2
       try clear c3
       try clear c4
       try clear c5
       try clear c7
       try clear c8
       try clear c9
       try clear c10
       try clear c12
       try clear c15
       try clear c18
       try clear c19
       try clear c20
       try clear c22
       try clear c23
       try clear c28
       try clear c28b0
       try clear c28b1
       try clear c31
       try clear c34
       try clear c37
       try clear c40
       try clear c43
       try clear c45
       try clear c46
       try clear c47
       try clear c48
       try clear c52
       try clear c53
       try clear c73
       try clear c77
       try clear c80
       try clear c83
       try clear c83b0
       try clear c83b1
       try clear c86
       try clear c88
       try clear c88b0
       try clear c91
       try clear c94
       try clear c97
       try clear c98
       try clear c99
       try clear c101
       try clear c102
       try clear hcz100_0
       try clear hcz100_1
       try clear hcz103_0
       try clear hcz103_1
       try clear hcz106_0
       try clear hcz106_1
       try clear hcz107_0
       try clear hcz107_1
       try clear hcz110_0
       try clear hcz110_1
       try clear hcz113_0
       try clear hcz113_1
       try clear hcz116_0
       try clear hcz116_1
       try clear hcz119_0
       try clear hcz119_1
       try clear hcz13_0
       try clear hcz13_1
       try clear hcz14_0
       try clear hcz14_1
       try clear hcz21_0
       try clear hcz21_1
       try clear hcz24_0
       try clear hcz24_1
       try clear hcz26_0
       try clear hcz26_1
       try clear hcz49_0
       try clear hcz49_1
       try clear hcz51_0
       try clear hcz51_1
       try clear hcz54_0
       try clear hcz54_1
       try clear hcz57_0
       try clear hcz57_1
       try clear hcz58_0
       try clear hcz58_1
       try clear hcz61_0
       try clear hcz61_1
       try clear hcz62_0
       try clear hcz62_1
       try clear hcz65_0
       try clear hcz65_1
       try clear hcz66_0
       try clear hcz66_1
       try clear hcz69_0
       try clear hcz69_1
       try clear hcz70_0
       try clear hcz70_1
       try clear hfz100_0
       try clear hfz100_1
       try clear hfz103_0
       try clear hfz103_1
       try clear hfz106_0
       try clear hfz106_1
       try clear hfz107_0
       try clear hfz107_1
       try clear hfz110_0
       try clear hfz110_1
       try clear hfz113_0
       try clear hfz113_1
       try clear hfz116_0
       try clear hfz116_1
       try clear hfz119_0
       try clear hfz119_1
       try clear hfz13_0
       try clear hfz13_1
       try clear hfz14_0
       try clear hfz14_1
       try clear hfz21_0
       try clear hfz21_1
       try clear hfz24_0
       try clear hfz24_1
       try clear hfz26_0
       try clear hfz26_1
       try clear hfz49_0
       try clear hfz49_1
       try clear hfz51_0
       try clear hfz51_1
       try clear hfz54_0
       try clear hfz54_1
       try clear hfz57_0
       try clear hfz57_1
       try clear hfz58_0
       try clear hfz58_1
       try clear hfz61_0
       try clear hfz61_1
       try clear hfz62_0
       try clear hfz62_1
       try clear hfz65_0
       try clear hfz65_1
       try clear hfz66_0
       try clear hfz66_1
       try clear hfz69_0
       try clear hfz69_1
       try clear hfz70_0
       try clear hfz70_1
       try clear p2
       obtain ⟨kq, x145_73, rfl, HA, HJ73, BK578, BK579, BK584, BK585, HB⟩ := hcut
       cases kq with
       | zero => exact absurd HA.out (by simp [lockgatelaw04_SpanSound.j2])
       | succ kj73 =>
        have H := HA.out
        clear HA
        simp only [lockgatelaw04_SpanSound.j2] at H
        by_cases c122 : x145_73 = true
        ·subst c122
         have H1 : (some false) = some r := by rw [if_pos rfl] at H; exact H
         clear H
         have H := H1
         clear H1
         exact absurd ((Option.some.inj H).trans HRT.out) (by decide)
        ·replace c122 := Bool.eq_false_iff.mpr c122
         subst c122
         have H1 : ((span_ToT.f kj73 t580 t581).bind fun bt622 => (if (Go.bits .andNot .u64 t586 bt622.2) = bt622.1 then (if (Go.bits .and .u64 bt622.1 bt622.2) = 0 then ((lockgatelaw04_works.f kj73).bind fun t625 => (some t625)) else (some false)) else (some false))) = some r := by rw [if_neg (show ¬ (false = true) by decide)] at H; exact H
         clear H
         have H := H1
         clear H1
         replace H := Option.bind_eq_some_iff.mp H
         obtain ⟨⟨t622, t623⟩, A1230, H⟩ := H
         replace H : (if (Go.bits .andNot .u64 t586 t623) = t622 then (if (Go.bits .and .u64 t622 t623) = 0 then ((lockgatelaw04_works.f kj73).bind fun t625 => (some t625)) else (some false)) else (some false)) = some r := H
         have A123 := Aside0.mk A1230
         clear A1230
         by_cases c124 : (Go.bits .andNot .u64 t586 t623) = t622
         ·rw [if_pos c124] at H
          have c124b0 : ((Go.bits .andNot .u64 t586 t623) == t622) = true := beq_iff_eq.mpr c124
          have c124b1 : ((Go.bits .andNot .u64 t586 t623) != t622) = false := bne_eq_false_iff_eq.mpr c124
          clear c124
          by_cases c125 : (Go.bits .and .u64 t622 t623) = 0
          ·rw [if_pos c125] at H
           have c125b0 : ((Go.bits .and .u64 t622 t623) == 0) = true := beq_iff_eq.mpr c125
           have c125b1 : ((Go.bits .and .u64 t622 t623) != 0) = false := bne_eq_false_iff_eq.mpr c125
           clear c125
           replace H := Option.bind_eq_some_iff.mp H
           obtain ⟨t625, A1260, H⟩ := H
           replace H : (some t625) = some r := H
           have A126 := Aside0.mk A1260
           clear A1260
           obtain rfl := Option.some.inj H
           have hnb127 := NB584_578.out
           have hnc127 := NB578_584.out
           have hnb128 := NB584_579.out
           have hnc128 := NB579_584.out
           have hnb129 := NB584_585.out
           have hnc129 := NB585_584.out
           have hcz130_0 := c0_ BK584
           have hcz130_1 := c1_ BK584
           have hfz130_0 := fz_ BK584 0
           have hfz130_1 := fz_ BK584 1
           go_wp2_with (first | ((with_reducible refine gate_callee (f := 50) rfl ?_); refine goesL_ (some 147) rfl rfl Try.func50 (by kernel_rfl) rfl #[.agg #[.int .u64 t580, .int .u64 t581]] rfl (by (try simp only [List.map_toArray, List.map_cons, List.map_nil]); first | done | rfl) ?_; (with_reducible refine (span_ToT.calls kj73 t580 t581 t622 t623 _ A123.out).mono ?_); rintro e w131 ⟨rfl, hb⟩; refine ⟨_, rfl, ?_⟩; replace BK578 := bb_ hb BK578; replace BK579 := bb_ hb BK579; replace BK584 := bb_ hb BK584; replace BK585 := bb_ hb BK585; replace HB := bl_ hb; (try clear hb); (try clear hb2); (try clear hk); (try clear hi)) | ((with_reducible refine gate_dst (N := 18) rfl ?_); refine bx_ 18 #[.int .u64 0, .int .u64 0] 24 ?_; intro gb624 hg w132 BK624 hb; have GW624 := bg_ hg; have GE624 := GW624; have NB578_624 := bm_ hg BK578; have NB624_578 := bn_ hg BK578; have NB579_624 := bm_ hg BK579; have NB624_579 := bn_ hg BK579; have NB584_624 := bm_ hg BK584; have NB624_584 := bn_ hg BK584; have NB585_624 := bm_ hg BK585; have NB624_585 := bn_ hg BK585; replace BK578 := bb_ hb BK578; replace BK579 := bb_ hb BK579; replace BK584 := bb_ hb BK584; replace BK585 := bb_ hb BK585; replace HB := bl_ hb; clear hb hg; have hnb133 := NB624_578.out; have hnc133 := NB578_624.out; have hnb134 := NB624_579.out; have hnc134 := NB579_624.out; have hnb135 := NB624_584.out; have hnc135 := NB584_624.out; have hnb136 := NB624_585.out; have hnc136 := NB585_624.out; have hcz137_0 := c0_ BK624; have hcz137_1 := c1_ BK624; have hfz137_0 := fz_ BK624 0; have hfz137_1 := fz_ BK624 1) | (go_at_call 14; (with_reducible refine (lockgatelaw04_works.calls kj73  t625 _ A126.out).mono ?_); rintro e w138 ⟨rfl, hb⟩; replace BK578 := Aside0.mk (blk_below (g := gb578) (o := .cells #[.int .u64 a0_0, .int .u64 a0_1] 26 (0, 0)) (by (with_reducible repeat (first | apply bN_ | apply bD_ | apply bA_)); refine blk_far ?_ NB578_624.out _; (with_reducible repeat (first | apply bN_ | apply bD_ | apply bA_)); refine blk_far ?_ NB578_624.out _; exact bk_) hb); replace BK579 := Aside0.mk (blk_below (g := gb579) (o := .cells #[.int .u64 a1_0, .int .u64 a1_1] 26 (0, 0)) (by (with_reducible repeat (first | apply bN_ | apply bD_ | apply bA_)); refine blk_far ?_ NB579_624.out _; (with_reducible repeat (first | apply bN_ | apply bD_ | apply bA_)); refine blk_far ?_ NB579_624.out _; exact bk_) hb); replace BK584 := Aside0.mk (blk_below (g := gb584) (o := .cells #[.int .u64 t580, .int .u64 t581] 26 (0, 0)) (by (with_reducible repeat (first | apply bN_ | apply bD_ | apply bA_)); refine blk_far ?_ NB584_624.out _; (with_reducible repeat (first | apply bN_ | apply bD_ | apply bA_)); refine blk_far ?_ NB584_624.out _; exact bk_) hb); replace BK585 := Aside0.mk (blk_below (g := gb585) (o := .cells #[.int .u64 t582, .int .u64 t583] 26 (0, 0)) (by (with_reducible repeat (first | apply bN_ | apply bD_ | apply bA_)); refine blk_far ?_ NB585_624.out _; (with_reducible repeat (first | apply bN_ | apply bD_ | apply bA_)); refine blk_far ?_ NB585_624.out _; exact bk_) hb); replace BK624 := Aside0.mk (blk_below (g := gb624) (o := .cells #[.int .u64 t622, .int .u64 t623] 24 (0, 0)) (by (with_reducible repeat (first | apply bN_ | apply bD_ | apply bA_)); refine blk_put (cs := #[.int .u64 t622, .int .u64 0]) ?_ 1 _ rfl; (with_reducible repeat (first | apply bN_ | apply bD_ | apply bA_)); refine blk_put (cs := #[.int .u64 0, .int .u64 0]) ?_ 0 _ rfl; exact bk_) hb); replace HB := bl_ hb; (try clear hb); (try clear hb2); (try clear hk); (try clear hi)))
           go_ret
           exact ⟨vv_, bz_⟩
          ·rw [if_neg c125] at H
           have c125b0 : ((Go.bits .and .u64 t622 t623) == 0) = false := beq_eq_false_iff_ne.mpr c125
           have c125b1 : ((Go.bits .and .u64 t622 t623) != 0) = true := bne_iff_ne.mpr c125
           exact absurd ((Option.some.inj H).trans HRT.out) (by decide)
         ·rw [if_neg c124] at H
          have c124b0 : ((Go.bits .andNot .u64 t586 t623) == t622) = false := beq_eq_false_iff_ne.mpr c124
          have c124b1 : ((Go.bits .andNot .u64 t586 t623) != t622) = true := bne_iff_ne.mpr c124
          exact absurd ((Option.some.inj H).trans HRT.out) (by decide)

end Go.Proofs.Ytnephcecobocdaa.PA
