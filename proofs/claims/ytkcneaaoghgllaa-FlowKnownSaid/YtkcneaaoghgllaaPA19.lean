-- PRINTED by print.py (a twelfth state) out of the translation. Not trusted: Lean checks it.
import Derived.Test.YtkcneaaoghgllaaPA0
import Derived.Test.YtkcneaaoghgllaaSq
namespace Go.Proofs.Ytkcneaaoghgllaa.PA
open Go.RowKit Go.Proofs.YtkcneaaoghgllaaW.PrintWords Go.Proofs.YtkcneaaoghgllaaW.PrintLast Go.Proofs.YtkcneaaoghgllaaW.PrintMore
attribute [local go_sem] max2_int min2_int max_two min_two max_three min_three max_four min_four   -- for this text's walks alone
set_option linter.unusedVariables false
set_option linter.unusedSimpArgs false

/-! ### lockgatelaw06_jumps: function 26 -/
def lockgatelaw06_jumps.f (a0_0 : Int) (a0_1 : Int) (a0_2 : Int) (a0_3 : Int) (a0_4 : Int) : Option (Bool) := if (Go.bits .and .i64 a0_0 7) = 5 then (if (a0_0 / 16) = 8 then (some false) else (some ((a0_0 / 16) != 9))) else (if (Go.bits .and .i64 a0_0 7) = 6 then (if (a0_0 / 16) = 8 then (some false) else (some ((a0_0 / 16) != 9))) else (some false))
set_option maxHeartbeats 8000000 in
set_option maxRecDepth 100000 in
theorem lockgatelaw06_jumps.calls (a0_0 : Int) (a0_1 : Int) (a0_2 : Int) (a0_3 : Int) (a0_4 : Int) (r : Bool) (w : World) (h : lockgatelaw06_jumps.f a0_0 a0_1 a0_2 a0_3 a0_4 = some r) :
 Calls Try.prog 26 #[.agg #[.int .i64 a0_0, .int .i64 a0_1, .int .i64 a0_2, .int .i64 a0_3, .int .i64 a0_4]] w fun e w' => e = .returned (.bool r) ∧ Below w.heap.size w w' := by
 have hu42 := Try.underlying42
 have HB := Aside0.mk (Below.refl w.heap.size w)
 have H : (if (Go.bits .and .i64 a0_0 7) = 5 then (if (a0_0 / 16) = 8 then (some false) else (some ((a0_0 / 16) != 9))) else (if (Go.bits .and .i64 a0_0 7) = 6 then (if (a0_0 / 16) = 8 then (some false) else (some ((a0_0 / 16) != 9))) else (some false))) = some r := h
 clear h
 by_cases c2 : (Go.bits .and .i64 a0_0 7) = 5
 ·rw [if_pos c2] at H
  have c2b0 : ((Go.bits .and .i64 a0_0 7) == 5) = true := beq_iff_eq.mpr c2
  have c2b1 : ((Go.bits .and .i64 a0_0 7) != 5) = false := bne_eq_false_iff_eq.mpr c2
  clear c2
  by_cases c3 : (a0_0 / 16) = 8
  ·rw [if_pos c3] at H
   have c3b0 : ((a0_0 / 16) == 8) = true := beq_iff_eq.mpr c3
   have c3b1 : ((a0_0 / 16) != 8) = false := bne_eq_false_iff_eq.mpr c3
   clear c3
   obtain rfl := Option.some.inj H
   go_enter Try.func26, Try.ntmps26
   go_wp2_with (first | ((with_reducible refine gate_dst (N := 1) rfl ?_); refine bx_ 1 #[.int .i64 a0_0, .int .i64 a0_1, .int .i64 a0_2, .int .i64 a0_3, .int .i64 a0_4] 42 ?_; intro gb430 hg w4 BK430 hb; have GW430 := bg_ hg; have GE430 := GW430; replace HB := bl_ hb; clear hb hg; obtain ⟨zc5_0, zc5_1, zc5_2, zc5_3, zc5_4, zf5_0, zf5_1, zf5_2, zf5_3, zf5_4⟩ := k5_ BK430))
   go_ret
   exact ⟨vv_, bz_⟩
  ·rw [if_neg c3] at H
   have c3b0 : ((a0_0 / 16) == 8) = false := beq_eq_false_iff_ne.mpr c3
   have c3b1 : ((a0_0 / 16) != 8) = true := bne_iff_ne.mpr c3
   obtain rfl := Option.some.inj H
   go_enter Try.func26, Try.ntmps26
   go_wp2_with (first | ((with_reducible refine gate_dst (N := 1) rfl ?_); refine bx_ 1 #[.int .i64 a0_0, .int .i64 a0_1, .int .i64 a0_2, .int .i64 a0_3, .int .i64 a0_4] 42 ?_; intro gb430 hg w6 BK430 hb; have GW430 := bg_ hg; have GE430 := GW430; replace HB := bl_ hb; clear hb hg; obtain ⟨zc7_0, zc7_1, zc7_2, zc7_3, zc7_4, zf7_0, zf7_1, zf7_2, zf7_3, zf7_4⟩ := k5_ BK430))
   go_ret
   exact ⟨vv_, bz_⟩
 ·rw [if_neg c2] at H
  have c2b0 : ((Go.bits .and .i64 a0_0 7) == 5) = false := beq_eq_false_iff_ne.mpr c2
  have c2b1 : ((Go.bits .and .i64 a0_0 7) != 5) = true := bne_iff_ne.mpr c2
  by_cases c8 : (Go.bits .and .i64 a0_0 7) = 6
  ·rw [if_pos c8] at H
   have c8b0 : ((Go.bits .and .i64 a0_0 7) == 6) = true := beq_iff_eq.mpr c8
   have c8b1 : ((Go.bits .and .i64 a0_0 7) != 6) = false := bne_eq_false_iff_eq.mpr c8
   clear c8
   by_cases c9 : (a0_0 / 16) = 8
   ·rw [if_pos c9] at H
    have c9b0 : ((a0_0 / 16) == 8) = true := beq_iff_eq.mpr c9
    have c9b1 : ((a0_0 / 16) != 8) = false := bne_eq_false_iff_eq.mpr c9
    clear c9
    obtain rfl := Option.some.inj H
    go_enter Try.func26, Try.ntmps26
    go_wp2_with (first | ((with_reducible refine gate_dst (N := 1) rfl ?_); refine bx_ 1 #[.int .i64 a0_0, .int .i64 a0_1, .int .i64 a0_2, .int .i64 a0_3, .int .i64 a0_4] 42 ?_; intro gb430 hg w10 BK430 hb; have GW430 := bg_ hg; have GE430 := GW430; replace HB := bl_ hb; clear hb hg; obtain ⟨zc11_0, zc11_1, zc11_2, zc11_3, zc11_4, zf11_0, zf11_1, zf11_2, zf11_3, zf11_4⟩ := k5_ BK430))
    go_ret
    exact ⟨vv_, bz_⟩
   ·rw [if_neg c9] at H
    have c9b0 : ((a0_0 / 16) == 8) = false := beq_eq_false_iff_ne.mpr c9
    have c9b1 : ((a0_0 / 16) != 8) = true := bne_iff_ne.mpr c9
    obtain rfl := Option.some.inj H
    go_enter Try.func26, Try.ntmps26
    go_wp2_with (first | ((with_reducible refine gate_dst (N := 1) rfl ?_); refine bx_ 1 #[.int .i64 a0_0, .int .i64 a0_1, .int .i64 a0_2, .int .i64 a0_3, .int .i64 a0_4] 42 ?_; intro gb430 hg w12 BK430 hb; have GW430 := bg_ hg; have GE430 := GW430; replace HB := bl_ hb; clear hb hg; obtain ⟨zc13_0, zc13_1, zc13_2, zc13_3, zc13_4, zf13_0, zf13_1, zf13_2, zf13_3, zf13_4⟩ := k5_ BK430))
    go_ret
    exact ⟨vv_, bz_⟩
  ·rw [if_neg c8] at H
   have c8b0 : ((Go.bits .and .i64 a0_0 7) == 6) = false := beq_eq_false_iff_ne.mpr c8
   have c8b1 : ((Go.bits .and .i64 a0_0 7) != 6) = true := bne_iff_ne.mpr c8
   obtain rfl := Option.some.inj H
   go_enter Try.func26, Try.ntmps26
   go_wp2_with (first | ((with_reducible refine gate_dst (N := 1) rfl ?_); refine bx_ 1 #[.int .i64 a0_0, .int .i64 a0_1, .int .i64 a0_2, .int .i64 a0_3, .int .i64 a0_4] 42 ?_; intro gb430 hg w14 BK430 hb; have GW430 := bg_ hg; have GE430 := GW430; replace HB := bl_ hb; clear hb hg; obtain ⟨zc15_0, zc15_1, zc15_2, zc15_3, zc15_4, zf15_0, zf15_1, zf15_2, zf15_3, zf15_4⟩ := k5_ BK430))
   go_ret
   exact ⟨vv_, bz_⟩

end Go.Proofs.Ytkcneaaoghgllaa.PA
