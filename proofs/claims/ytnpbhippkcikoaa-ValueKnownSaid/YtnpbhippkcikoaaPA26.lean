-- PRINTED by print.py (a twelfth state) out of the translation. Not trusted: Lean checks it.
import Derived.Test.YtnpbhippkcikoaaPA0
import Derived.Test.YtnpbhippkcikoaaSq
import Derived.Test.YtnpbhippkcikoaaPA1
import Derived.Test.YtnpbhippkcikoaaPA10
import Derived.Test.YtnpbhippkcikoaaPA19
import Derived.Test.YtnpbhippkcikoaaPA20
namespace Go.Proofs.Ytnpbhippkcikoaa.PA
open Go.RowKit Go.Proofs.YtnpbhippkcikoaaW.PrintWords Go.Proofs.YtnpbhippkcikoaaW.PrintLast Go.Proofs.YtnpbhippkcikoaaW.PrintMore
attribute [local go_sem] max2_int min2_int max_two min_two max_three min_three max_four min_four   -- for this text's walks alone
set_option linter.unusedVariables false
set_option linter.unusedSimpArgs false

attribute [local go_sem high] eqA24
/-! ### lockgatelaw14_ValueSwaps: function 8 -/
def lockgatelaw14_ValueSwaps.f (k : Nat) (a0 : Int) (a1 : Bool) (a2_0 : Int) (a2_1 : Int) (a2_2 : Int) : Option (Bool) := (value_Swap.f k a0 a1 a2_0 a2_1 a2_2).bind fun bt410 => ((lockgateref14_Swap.f k a0 a1 a2_0 a2_1 a2_2).bind fun bt415 => (if (bt410.1 == bt415.1 && (bt410.2.1 == bt415.2.1 && (bt410.2.2.1 == bt415.2.2.1))) = true then (if bt410.2.2.2 = bt415.2.2.2 then ((lockgatelaw14_works.f k).bind fun t420 => (some t420)) else (some false)) else (some false)))
theorem lockgatelaw14_ValueSwaps.mono : ∀ a0 a1 a2 a3 a4 k, LeO (lockgatelaw14_ValueSwaps.f k a0 a1 a2 a3 a4) (lockgatelaw14_ValueSwaps.f (k + 1) a0 a1 a2 a3 a4) := by
 intro a0 a1 a2 a3 a4 k
 unfold lockgatelaw14_ValueSwaps.f
 repeat' first
  | (with_reducible exact lockgatelaw14_works.mono _)
  | (with_reducible exact lockgateref14_Swap.mono _ _ _ _ _ _)
  | (with_reducible exact value_Swap.mono _ _ _ _ _ _)
  | (with_reducible exact LeO.refl _)
  | (with_reducible exact LeO.none _)
  | (with_reducible refine LeO.ite ?_ ?_)
  | (with_reducible refine LeO.bind ?_ (fun _ => ?_))
  | exact lockgatelaw14_works.mono _
  | exact lockgateref14_Swap.mono _ _ _ _ _ _
  | exact value_Swap.mono _ _ _ _ _ _
  | exact LeO.none _
  | refine LeO.ite ?_ ?_
  | refine LeO.bind ?_ (fun _ => ?_)
set_option maxHeartbeats 8000000 in
set_option maxRecDepth 100000 in
theorem lockgatelaw14_ValueSwaps.calls (k : Nat) (a0 : Int) (a1 : Bool) (a2_0 : Int) (a2_1 : Int) (a2_2 : Int) (r : Bool) (w : World) (HRT : Aside0 (r = true)) (h : lockgatelaw14_ValueSwaps.f k a0 a1 a2_0 a2_1 a2_2 = some r) :
 Calls Try.prog 8 #[.int .i64 a0, .bool a1, .agg #[.int .i64 a2_0, .int .u64 a2_1, .int .i64 a2_2]] w fun e w' => e = .returned (.bool r) ∧ Below w.heap.size w w' := by
 have hu24 := Try.underlying24
 have HB := Aside0.mk (Below.refl w.heap.size w)
 have H : ((value_Swap.f k a0 a1 a2_0 a2_1 a2_2).bind fun bt410 => ((lockgateref14_Swap.f k a0 a1 a2_0 a2_1 a2_2).bind fun bt415 => (if (bt410.1 == bt415.1 && (bt410.2.1 == bt415.2.1 && (bt410.2.2.1 == bt415.2.2.1))) = true then (if bt410.2.2.2 = bt415.2.2.2 then ((lockgatelaw14_works.f k).bind fun t420 => (some t420)) else (some false)) else (some false)))) = some r := h
 clear h
 replace H := Option.bind_eq_some_iff.mp H
 obtain ⟨⟨t410, t411, t412, t413⟩, A40, H⟩ := H
 replace H : ((lockgateref14_Swap.f k a0 a1 a2_0 a2_1 a2_2).bind fun bt415 => (if (t410 == bt415.1 && (t411 == bt415.2.1 && (t412 == bt415.2.2.1))) = true then (if t413 = bt415.2.2.2 then ((lockgatelaw14_works.f k).bind fun t420 => (some t420)) else (some false)) else (some false))) = some r := H
 have A4 := Aside0.mk A40
 clear A40
 replace H := Option.bind_eq_some_iff.mp H
 obtain ⟨⟨t415, t416, t417, t418⟩, A50, H⟩ := H
 replace H : (if (t410 == t415 && (t411 == t416 && (t412 == t417))) = true then (if t413 = t418 then ((lockgatelaw14_works.f k).bind fun t420 => (some t420)) else (some false)) else (some false)) = some r := H
 have A5 := Aside0.mk A50
 clear A50
 by_cases c6 : (t410 == t415 && (t411 == t416 && (t412 == t417))) = true
 ·rw [if_pos c6] at H
  have c6b0 : (t410 == t415 && (t411 == t416 && (t412 == t417))) = true := c6
  (try (have c6b1 : decide (t410 = t415 && (t411 == t416 && (t412 == t417))) = true := by simpa using c6))
  (try (have c6b2 : (t410 == t415 && (t411 == t416 && (t412 == t417))) = true := by simpa using c6))
  clear c6
  by_cases c7 : t413 = t418
  ·rw [if_pos c7] at H
   have c7b0 : (t413 == t418) = true := beq_iff_eq.mpr c7
   have c7b1 : (t413 != t418) = false := bne_eq_false_iff_eq.mpr c7
   clear c7
   replace H := Option.bind_eq_some_iff.mp H
   obtain ⟨t420, A80, H⟩ := H
   replace H : (some t420) = some r := H
   have A8 := Aside0.mk A80
   clear A80
   obtain rfl := Option.some.inj H
   go_enter Try.func8, Try.ntmps8
   go_wp2_with (first | ((with_reducible refine gate_dst (N := 5) rfl ?_); refine bx_ 5 #[.int .i64 a2_0, .int .u64 a2_1, .int .i64 a2_2] 24 ?_; intro gb409 hg w9 BK409 hb; have GW409 := bg_ hg; have GE409 := GW409; replace HB := bl_ hb; clear hb hg; obtain ⟨zc10_0, zc10_1, zc10_2, zf10_0, zf10_1, zf10_2⟩ := k3_ BK409) | ((with_reducible refine gate_callee (f := 22) rfl ?_); refine gM_ 15 Try.func22 (value_Swap.calls k a0 a1 a2_0 a2_1 a2_2 t410 t411 t412 t413 _ A4.out) ?_; intro w11 hb; replace BK409 := bb_ hb BK409; replace HB := bl_ hb; (try clear hb); (try clear hb2); (try clear hk); (try clear hi)) | ((with_reducible refine gate_dst (N := 7) rfl ?_); refine bx_ 7 #[.int .i64 0, .int .u64 0, .int .i64 0] 24 ?_; intro gb414 hg w12 BK414 hb; have GW414 := bg_ hg; have GE414 := GW414; have NB409_414 := bm_ hg BK409; have NB414_409 := bn_ hg BK409; replace BK409 := bb_ hb BK409; replace HB := bl_ hb; clear hb hg; have hnb13 := NB414_409.out; have hnc13 := NB409_414.out; obtain ⟨zc14_0, zc14_1, zc14_2, zf14_0, zf14_1, zf14_2⟩ := k3_ BK414; obtain ⟨zc15_0, zc15_1, zc15_2, zf15_0, zf15_1, zf15_2⟩ := k3_ BK409) | ((with_reducible refine gate_callee (f := 23) rfl ?_); refine gM_ 22 Try.func23 (lockgateref14_Swap.calls k a0 a1 a2_0 a2_1 a2_2 t415 t416 t417 t418 _ A5.out) ?_; intro w16 hb; replace BK409 := Aside0.mk (blk_below (g := gb409) (o := .cells #[.int .i64 a2_0, .int .u64 a2_1, .int .i64 a2_2] 24 (0, 0)) (by (with_reducible repeat (first | apply bN_ | apply bD_ | apply bA_)); refine blk_far ?_ NB409_414.out _; (with_reducible repeat (first | apply bN_ | apply bD_ | apply bA_)); refine blk_far ?_ NB409_414.out _; (with_reducible repeat (first | apply bN_ | apply bD_ | apply bA_)); refine blk_far ?_ NB409_414.out _; exact bk_) hb); replace BK414 := Aside0.mk (blk_below (g := gb414) (o := .cells #[.int .i64 t410, .int .u64 t411, .int .i64 t412] 24 (0, 0)) (by (with_reducible repeat (first | apply bN_ | apply bD_ | apply bA_)); refine blk_put (cs := #[.int .i64 t410, .int .u64 t411, .int .i64 0]) ?_ 2 _ rfl; (with_reducible repeat (first | apply bN_ | apply bD_ | apply bA_)); refine blk_put (cs := #[.int .i64 t410, .int .u64 0, .int .i64 0]) ?_ 1 _ rfl; (with_reducible repeat (first | apply bN_ | apply bD_ | apply bA_)); refine blk_put (cs := #[.int .i64 0, .int .u64 0, .int .i64 0]) ?_ 0 _ rfl; exact bk_) hb); replace HB := bl_ hb; (try clear hb); (try clear hb2); (try clear hk); (try clear hi)) | ((with_reducible refine gate_dst (N := 9) rfl ?_); refine bx_ 9 #[.int .i64 0, .int .u64 0, .int .i64 0] 24 ?_; intro gb419 hg w17 BK419 hb; have GW419 := bg_ hg; have GE419 := GW419; have NB409_419 := bm_ hg BK409; have NB419_409 := bn_ hg BK409; have NB414_419 := bm_ hg BK414; have NB419_414 := bn_ hg BK414; replace BK409 := bb_ hb BK409; replace BK414 := bb_ hb BK414; replace HB := bl_ hb; clear hb hg; have hnb18 := NB419_409.out; have hnc18 := NB409_419.out; have hnb19 := NB419_414.out; have hnc19 := NB414_419.out; obtain ⟨zc20_0, zc20_1, zc20_2, zf20_0, zf20_1, zf20_2⟩ := k3_ BK419; obtain ⟨zc21_0, zc21_1, zc21_2, zf21_0, zf21_1, zf21_2⟩ := k3_ BK414) | (go_at_call 19; (with_reducible refine (lockgatelaw14_works.calls k  t420 _ A8.out).mono ?_); rintro e w22 ⟨rfl, hb⟩; replace BK409 := Aside0.mk (blk_below (g := gb409) (o := .cells #[.int .i64 a2_0, .int .u64 a2_1, .int .i64 a2_2] 24 (0, 0)) (by (with_reducible repeat (first | apply bN_ | apply bD_ | apply bA_)); refine blk_far ?_ NB409_419.out _; (with_reducible repeat (first | apply bN_ | apply bD_ | apply bA_)); refine blk_far ?_ NB409_419.out _; (with_reducible repeat (first | apply bN_ | apply bD_ | apply bA_)); refine blk_far ?_ NB409_419.out _; exact bk_) hb); replace BK414 := Aside0.mk (blk_below (g := gb414) (o := .cells #[.int .i64 t410, .int .u64 t411, .int .i64 t412] 24 (0, 0)) (by (with_reducible repeat (first | apply bN_ | apply bD_ | apply bA_)); refine blk_far ?_ NB414_419.out _; (with_reducible repeat (first | apply bN_ | apply bD_ | apply bA_)); refine blk_far ?_ NB414_419.out _; (with_reducible repeat (first | apply bN_ | apply bD_ | apply bA_)); refine blk_far ?_ NB414_419.out _; exact bk_) hb); replace BK419 := Aside0.mk (blk_below (g := gb419) (o := .cells #[.int .i64 t415, .int .u64 t416, .int .i64 t417] 24 (0, 0)) (by (with_reducible repeat (first | apply bN_ | apply bD_ | apply bA_)); refine blk_put (cs := #[.int .i64 t415, .int .u64 t416, .int .i64 0]) ?_ 2 _ rfl; (with_reducible repeat (first | apply bN_ | apply bD_ | apply bA_)); refine blk_put (cs := #[.int .i64 t415, .int .u64 0, .int .i64 0]) ?_ 1 _ rfl; (with_reducible repeat (first | apply bN_ | apply bD_ | apply bA_)); refine blk_put (cs := #[.int .i64 0, .int .u64 0, .int .i64 0]) ?_ 0 _ rfl; exact bk_) hb); replace HB := bl_ hb; (try clear hb); (try clear hb2); (try clear hk); (try clear hi)))
   go_ret
   exact ⟨vv_, bz_⟩
  ·rw [if_neg c7] at H
   have c7b0 : (t413 == t418) = false := beq_eq_false_iff_ne.mpr c7
   have c7b1 : (t413 != t418) = true := bne_iff_ne.mpr c7
   exact absurd ((Option.some.inj H).trans HRT.out) (by decide)
 ·rw [if_neg c6] at H
  have c6b0 : (t410 == t415 && (t411 == t416 && (t412 == t417))) = false := by simpa using c6
  (try (have c6b1 : decide (t410 = t415 && (t411 == t416 && (t412 == t417))) = false := by simpa using c6))
  (try (have c6b2 : (t410 == t415 && (t411 == t416 && (t412 == t417))) = false := by simpa using c6))
  (try (have c6b3 : ¬ (t410 = t415 && (t411 == t416 && (t412 == t417))) := by simpa using c6))
  clear c6
  exact absurd ((Option.some.inj H).trans HRT.out) (by decide)

end Go.Proofs.Ytnpbhippkcikoaa.PA
