-- PRINTED by print.py (a twelfth state) out of the translation. Not trusted: Lean checks it.
import Derived.Test.YtaplgollkkpnaaaPA0
import Derived.Test.YtaplgollkkpnaaaSq
namespace Go.Proofs.Ytaplgollkkpnaaa.PA
open Go.RowKit Go.Proofs.YtaplgollkkpnaaaW.PrintWords Go.Proofs.YtaplgollkkpnaaaW.PrintLast Go.Proofs.YtaplgollkkpnaaaW.PrintMore
attribute [local go_sem] max2_int min2_int max_two min_two max_three min_three max_four min_four   -- for this text's walks alone
set_option linter.unusedVariables false
set_option linter.unusedSimpArgs false

/-! ### lockgateref05_Is: function 24 -/
def lockgateref05_Is.f (a0_0 : Int) (a0_1 : Int) (a0_2 : Int) (a0_3 : Int) (a0_4 : Int) (a0_5 : Int) : Option (Int × Bool) := if a0_2 = a0_3 then (some (a0_2, true)) else (if a0_1 = 0 then (some (a0_0, true)) else (if a0_4 = a0_5 then (some (IntKind.u64.wrap (a0_4), true)) else (some (0, false))))
set_option maxHeartbeats 8000000 in
set_option maxRecDepth 100000 in
theorem lockgateref05_Is.calls (a0_0 : Int) (a0_1 : Int) (a0_2 : Int) (a0_3 : Int) (a0_4 : Int) (a0_5 : Int) (r1 : Int) (r2 : Bool) (w : World) (h : lockgateref05_Is.f a0_0 a0_1 a0_2 a0_3 a0_4 a0_5 = some (r1, r2)) :
 Calls Try.prog 24 #[.agg #[.int .u64 a0_0, .int .u64 a0_1, .int .u64 a0_2, .int .u64 a0_3, .int .i64 a0_4, .int .i64 a0_5]] w fun e w' => e = .returned (.tuple #[.int .u64 r1, .bool r2]) ∧ Below w.heap.size w w' := by
 have hu30 := Try.underlying30
 have HB := Aside0.mk (Below.refl w.heap.size w)
 have H : (if a0_2 = a0_3 then (some (a0_2, true)) else (if a0_1 = 0 then (some (a0_0, true)) else (if a0_4 = a0_5 then (some (IntKind.u64.wrap (a0_4), true)) else (some (0, false))))) = some (r1, r2) := h
 clear h
 by_cases c2 : a0_2 = a0_3
 ·rw [if_pos c2] at H
  have c2b0 : (a0_2 == a0_3) = true := beq_iff_eq.mpr c2
  have c2b1 : (a0_2 != a0_3) = false := bne_eq_false_iff_eq.mpr c2
  clear c2
  simp only [Option.some.injEq, Prod.mk.injEq] at H
  obtain ⟨rfl, rfl⟩ := H
  go_enter Try.func24, Try.ntmps24
  go_wp2_with (first | ((with_reducible refine gate_dst (N := 1) rfl ?_); refine bx_ 1 #[.int .u64 a0_0, .int .u64 a0_1, .int .u64 a0_2, .int .u64 a0_3, .int .i64 a0_4, .int .i64 a0_5] 30 ?_; intro gb494 hg w3 BK494 hb; have GW494 := bg_ hg; have GE494 := GW494; replace HB := bl_ hb; clear hb hg; obtain ⟨zc4_0, zc4_1, zc4_2, zc4_3, zc4_4, zc4_5, zf4_0, zf4_1, zf4_2, zf4_3, zf4_4, zf4_5⟩ := k6_ BK494))
  go_ret2
  exact ⟨vv_, bz_⟩
 ·rw [if_neg c2] at H
  have c2b0 : (a0_2 == a0_3) = false := beq_eq_false_iff_ne.mpr c2
  have c2b1 : (a0_2 != a0_3) = true := bne_iff_ne.mpr c2
  by_cases c5 : a0_1 = 0
  ·rw [if_pos c5] at H
   have c5b0 : (a0_1 == 0) = true := beq_iff_eq.mpr c5
   have c5b1 : (a0_1 != 0) = false := bne_eq_false_iff_eq.mpr c5
   clear c5
   simp only [Option.some.injEq, Prod.mk.injEq] at H
   obtain ⟨rfl, rfl⟩ := H
   go_enter Try.func24, Try.ntmps24
   go_wp2_with (first | ((with_reducible refine gate_dst (N := 1) rfl ?_); refine bx_ 1 #[.int .u64 a0_0, .int .u64 a0_1, .int .u64 a0_2, .int .u64 a0_3, .int .i64 a0_4, .int .i64 a0_5] 30 ?_; intro gb494 hg w6 BK494 hb; have GW494 := bg_ hg; have GE494 := GW494; replace HB := bl_ hb; clear hb hg; obtain ⟨zc7_0, zc7_1, zc7_2, zc7_3, zc7_4, zc7_5, zf7_0, zf7_1, zf7_2, zf7_3, zf7_4, zf7_5⟩ := k6_ BK494))
   go_ret2
   exact ⟨vv_, bz_⟩
  ·rw [if_neg c5] at H
   have c5b0 : (a0_1 == 0) = false := beq_eq_false_iff_ne.mpr c5
   have c5b1 : (a0_1 != 0) = true := bne_iff_ne.mpr c5
   by_cases c8 : a0_4 = a0_5
   ·rw [if_pos c8] at H
    have c8b0 : (a0_4 == a0_5) = true := beq_iff_eq.mpr c8
    have c8b1 : (a0_4 != a0_5) = false := bne_eq_false_iff_eq.mpr c8
    clear c8
    simp only [Option.some.injEq, Prod.mk.injEq] at H
    obtain ⟨rfl, rfl⟩ := H
    go_enter Try.func24, Try.ntmps24
    go_wp2_with (first | ((with_reducible refine gate_dst (N := 1) rfl ?_); refine bx_ 1 #[.int .u64 a0_0, .int .u64 a0_1, .int .u64 a0_2, .int .u64 a0_3, .int .i64 a0_4, .int .i64 a0_5] 30 ?_; intro gb494 hg w9 BK494 hb; have GW494 := bg_ hg; have GE494 := GW494; replace HB := bl_ hb; clear hb hg; obtain ⟨zc10_0, zc10_1, zc10_2, zc10_3, zc10_4, zc10_5, zf10_0, zf10_1, zf10_2, zf10_3, zf10_4, zf10_5⟩ := k6_ BK494))
    go_ret2
    exact ⟨vv_, bz_⟩
   ·rw [if_neg c8] at H
    have c8b0 : (a0_4 == a0_5) = false := beq_eq_false_iff_ne.mpr c8
    have c8b1 : (a0_4 != a0_5) = true := bne_iff_ne.mpr c8
    simp only [Option.some.injEq, Prod.mk.injEq] at H
    obtain ⟨rfl, rfl⟩ := H
    go_enter Try.func24, Try.ntmps24
    go_wp2_with (first | ((with_reducible refine gate_dst (N := 1) rfl ?_); refine bx_ 1 #[.int .u64 a0_0, .int .u64 a0_1, .int .u64 a0_2, .int .u64 a0_3, .int .i64 a0_4, .int .i64 a0_5] 30 ?_; intro gb494 hg w11 BK494 hb; have GW494 := bg_ hg; have GE494 := GW494; replace HB := bl_ hb; clear hb hg; obtain ⟨zc12_0, zc12_1, zc12_2, zc12_3, zc12_4, zc12_5, zf12_0, zf12_1, zf12_2, zf12_3, zf12_4, zf12_5⟩ := k6_ BK494))
    go_ret2
    exact ⟨vv_, bz_⟩

end Go.Proofs.Ytaplgollkkpnaaa.PA
