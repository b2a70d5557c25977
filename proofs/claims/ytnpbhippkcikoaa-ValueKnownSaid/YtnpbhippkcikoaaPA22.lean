-- PRINTED by print.py (a twelfth state) out of the translation. Not trusted: Lean checks it.
import Derived.Test.YtnpbhippkcikoaaPA0
import Derived.Test.YtnpbhippkcikoaaSq
import Derived.Test.YtnpbhippkcikoaaPA9
import Derived.Test.YtnpbhippkcikoaaPA18
import Derived.Test.YtnpbhippkcikoaaPA20
namespace Go.Proofs.Ytnpbhippkcikoaa.PA
open Go.RowKit Go.Proofs.YtnpbhippkcikoaaW.PrintWords Go.Proofs.YtnpbhippkcikoaaW.PrintLast Go.Proofs.YtnpbhippkcikoaaW.PrintMore
attribute [local go_sem] max2_int min2_int max_two min_two max_three min_three max_four min_four   -- for this text's walks alone
set_option linter.unusedVariables false
set_option linter.unusedSimpArgs false

/-! ### lockgatelaw14_ValueCompares: function 4 -/
def lockgatelaw14_ValueCompares.f (k : Nat) (a0 : Int) (a1 : Bool) (a2_0 : Int) (a2_1 : Int) (a2_2 : Int) (a3_0 : Int) (a3_1 : Int) (a3_2 : Int) (a4 : Int) : Option (Bool) := (value_Compare.f k a0 a1 a2_0 a2_1 a2_2 a3_0 a3_1 a3_2 a4).bind fun bt291 => ((lockgateref14_Compare.f k a0 a1 a2_0 a2_1 a2_2 a3_0 a3_1 a3_2 a4).bind fun bt293 => (if (bt291.1 == bt293.1) = true then (if bt291.2 = bt293.2 then ((lockgatelaw14_works.f k).bind fun t295 => (some t295)) else (some false)) else (some false)))
theorem lockgatelaw14_ValueCompares.mono : ∀ a0 a1 a2 a3 a4 a5 a6 a7 a8 k, LeO (lockgatelaw14_ValueCompares.f k a0 a1 a2 a3 a4 a5 a6 a7 a8) (lockgatelaw14_ValueCompares.f (k + 1) a0 a1 a2 a3 a4 a5 a6 a7 a8) := by
 intro a0 a1 a2 a3 a4 a5 a6 a7 a8 k
 unfold lockgatelaw14_ValueCompares.f
 repeat' first
  | (with_reducible exact lockgatelaw14_works.mono _)
  | (with_reducible exact lockgateref14_Compare.mono _ _ _ _ _ _ _ _ _ _)
  | (with_reducible exact value_Compare.mono _ _ _ _ _ _ _ _ _ _)
  | (with_reducible exact LeO.refl _)
  | (with_reducible exact LeO.none _)
  | (with_reducible refine LeO.ite ?_ ?_)
  | (with_reducible refine LeO.bind ?_ (fun _ => ?_))
  | exact lockgatelaw14_works.mono _
  | exact lockgateref14_Compare.mono _ _ _ _ _ _ _ _ _ _
  | exact value_Compare.mono _ _ _ _ _ _ _ _ _ _
  | exact LeO.none _
  | refine LeO.ite ?_ ?_
  | refine LeO.bind ?_ (fun _ => ?_)
set_option maxHeartbeats 8000000 in
set_option maxRecDepth 100000 in
theorem lockgatelaw14_ValueCompares.calls (k : Nat) (a0 : Int) (a1 : Bool) (a2_0 : Int) (a2_1 : Int) (a2_2 : Int) (a3_0 : Int) (a3_1 : Int) (a3_2 : Int) (a4 : Int) (r : Bool) (w : World) (HRT : Aside0 (r = true)) (h : lockgatelaw14_ValueCompares.f k a0 a1 a2_0 a2_1 a2_2 a3_0 a3_1 a3_2 a4 = some r) :
 Calls Try.prog 4 #[.int .i64 a0, .bool a1, .agg #[.int .i64 a2_0, .int .u64 a2_1, .int .i64 a2_2], .agg #[.int .i64 a3_0, .int .u64 a3_1, .int .i64 a3_2], .int .i64 a4] w fun e w' => e = .returned (.bool r) ∧ Below w.heap.size w w' := by
 have hu24 := Try.underlying24
 have HB := Aside0.mk (Below.refl w.heap.size w)
 have H : ((value_Compare.f k a0 a1 a2_0 a2_1 a2_2 a3_0 a3_1 a3_2 a4).bind fun bt291 => ((lockgateref14_Compare.f k a0 a1 a2_0 a2_1 a2_2 a3_0 a3_1 a3_2 a4).bind fun bt293 => (if (bt291.1 == bt293.1) = true then (if bt291.2 = bt293.2 then ((lockgatelaw14_works.f k).bind fun t295 => (some t295)) else (some false)) else (some false)))) = some r := h
 clear h
 replace H := Option.bind_eq_some_iff.mp H
 obtain ⟨⟨t291, t292⟩, A60, H⟩ := H
 replace H : ((lockgateref14_Compare.f k a0 a1 a2_0 a2_1 a2_2 a3_0 a3_1 a3_2 a4).bind fun bt293 => (if (t291 == bt293.1) = true then (if t292 = bt293.2 then ((lockgatelaw14_works.f k).bind fun t295 => (some t295)) else (some false)) else (some false))) = some r := H
 have A6 := Aside0.mk A60
 clear A60
 replace H := Option.bind_eq_some_iff.mp H
 obtain ⟨⟨t293, t294⟩, A70, H⟩ := H
 replace H : (if (t291 == t293) = true then (if t292 = t294 then ((lockgatelaw14_works.f k).bind fun t295 => (some t295)) else (some false)) else (some false)) = some r := H
 have A7 := Aside0.mk A70
 clear A70
 by_cases c8 : (t291 == t293) = true
 ·rw [if_pos c8] at H
  have c8b0 : (t291 == t293) = true := c8
  (try (have c8b1 : decide (t291 = t293) = true := by simpa using c8))
  (try (have c8b2 : (t291 == t293) = true := by simpa using c8))
  clear c8
  by_cases c9 : t292 = t294
  ·rw [if_pos c9] at H
   have c9b0 : (t292 == t294) = true := beq_iff_eq.mpr c9
   have c9b1 : (t292 != t294) = false := bne_eq_false_iff_eq.mpr c9
   clear c9
   replace H := Option.bind_eq_some_iff.mp H
   obtain ⟨t295, A100, H⟩ := H
   replace H : (some t295) = some r := H
   have A10 := Aside0.mk A100
   clear A100
   obtain rfl := Option.some.inj H
   go_enter Try.func4, Try.ntmps4
   go_wp2_with (first | ((with_reducible refine gate_dst (N := 7) rfl ?_); refine bx_ 7 #[.int .i64 a2_0, .int .u64 a2_1, .int .i64 a2_2] 24 ?_; intro gb289 hg w11 BK289 hb; have GW289 := bg_ hg; have GE289 := GW289; replace HB := bl_ hb; clear hb hg) | ((with_reducible refine gate_dst (N := 8) rfl ?_); refine bx_ 8 #[.int .i64 a3_0, .int .u64 a3_1, .int .i64 a3_2] 24 ?_; intro gb290 hg w12 BK290 hb; have GW290 := bg_ hg; have GE290 := GW290; have NB289_290 := bm_ hg BK289; have NB290_289 := bn_ hg BK289; replace BK289 := bb_ hb BK289; replace HB := bl_ hb; clear hb hg; have hnb13 := NB289_290.out; have hnc13 := NB290_289.out; obtain ⟨zc14_0, zc14_1, zc14_2, zf14_0, zf14_1, zf14_2⟩ := k3_ BK289; obtain ⟨zc15_0, zc15_1, zc15_2, zf15_0, zf15_1, zf15_2⟩ := k3_ BK290) | ((with_reducible refine gate_callee (f := 20) rfl ?_); refine gM_ 21 Try.func20 (value_Compare.calls k a0 a1 a2_0 a2_1 a2_2 a3_0 a3_1 a3_2 a4 t291 t292 _ A6.out) ?_; intro w16 hb; replace BK289 := bb_ hb BK289; replace BK290 := bb_ hb BK290; replace HB := bl_ hb; (try clear hb); (try clear hb2); (try clear hk); (try clear hi); obtain ⟨zc17_0, zc17_1, zc17_2, zf17_0, zf17_1, zf17_2⟩ := k3_ BK289; obtain ⟨zc18_0, zc18_1, zc18_2, zf18_0, zf18_1, zf18_2⟩ := k3_ BK290) | ((with_reducible refine gate_callee (f := 21) rfl ?_); refine gM_ 30 Try.func21 (lockgateref14_Compare.calls k a0 a1 a2_0 a2_1 a2_2 a3_0 a3_1 a3_2 a4 t293 t294 _ A7.out) ?_; intro w19 hb; replace BK289 := bb_ hb BK289; replace BK290 := bb_ hb BK290; replace HB := bl_ hb; (try clear hb); (try clear hb2); (try clear hk); (try clear hi)) | (go_at_call 19; (with_reducible refine (lockgatelaw14_works.calls k  t295 _ A10.out).mono ?_); rintro e w20 ⟨rfl, hb⟩; replace BK289 := bb_ hb BK289; replace BK290 := bb_ hb BK290; replace HB := bl_ hb; (try clear hb); (try clear hb2); (try clear hk); (try clear hi)))
   go_ret
   exact ⟨vv_, bz_⟩
  ·rw [if_neg c9] at H
   have c9b0 : (t292 == t294) = false := beq_eq_false_iff_ne.mpr c9
   have c9b1 : (t292 != t294) = true := bne_iff_ne.mpr c9
   exact absurd ((Option.some.inj H).trans HRT.out) (by decide)
 ·rw [if_neg c8] at H
  have c8b0 : (t291 == t293) = false := by simpa using c8
  (try (have c8b1 : decide (t291 = t293) = false := by simpa using c8))
  (try (have c8b2 : (t291 == t293) = false := by simpa using c8))
  (try (have c8b3 : ¬ (t291 = t293) := by simpa using c8))
  clear c8
  exact absurd ((Option.some.inj H).trans HRT.out) (by decide)

end Go.Proofs.Ytnpbhippkcikoaa.PA
