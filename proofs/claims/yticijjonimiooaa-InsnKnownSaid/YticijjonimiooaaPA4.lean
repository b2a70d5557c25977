import Derived.Test.YticijjonimiooaaPA0
import Derived.Test.YticijjonimiooaaSq
import Derived.Test.YticijjonimiooaaPA2
import Derived.Test.YticijjonimiooaaPA3
namespace Go.Proofs.Yticijjonimiooaa.PA
open Go.RowKit Go.Proofs.YticijjonimiooaaW.PrintWords Go.Proofs.YticijjonimiooaaW.PrintLast Go.Proofs.YticijjonimiooaaW.PrintMore
attribute [local go_sem] max2_int min2_int max_two min_two max_three min_three max_four min_four
set_option linter.unusedVariables false
set_option linter.unusedSimpArgs false
mutual
def insn_Check.j0 : Nat → Int → Bool → Int → Int → Int → Int → Int → Option (Int)
 | 0, _, _, _, _, _, _, _ => none
 | k + 1, x3, x14, x119000, x119001, x119002, x119003, x119004 => if x14 = true then (some 5) else ((insn_has.f x119003 16).bind fun t123 => (if t123 = true then (if x119000 = 24 then (insn_Check.j1 k x3 false x119000 x119001 x119002 x119003 x119004) else ((insn_has.f x119004 32).bind fun t124 => (insn_Check.j1 k x3 (!t124) x119000 x119001 x119002 x119003 x119004))) else (insn_Check.j1 k x3 true x119000 x119001 x119002 x119003 x119004)))
def insn_Check.j1 : Nat → Int → Bool → Int → Int → Int → Int → Int → Option (Int)
 | 0, _, _, _, _, _, _, _ => none
 | k + 1, x3, x35, x119000, x119001, x119002, x119003, x119004 => if x35 = true then (some 15) else ((insn_fits.f k x119000 x119001 x119002 x119003 x119004 x3).bind fun t125 => (if t125 = true then (some 0) else (some 6)))
end
def insn_Check.f (k : Nat) (a0_0 : Int) (a0_1 : Int) (a0_2 : Int) (a0_3 : Int) (a0_4 : Int) : Option (Int) := (insn_uses.f a0_0).bind fun bt119 => (if bt119.2 = true then ((insn_within.f a0_1 0 10).bind fun t121 => (if t121 = true then ((insn_within.f a0_2 0 10).bind fun t122 => (if t122 = true then (if (Go.bits .and .i64 bt119.1 16) = 0 then (insn_Check.j0 k bt119.1 false a0_0 a0_1 a0_2 a0_3 a0_4) else (insn_Check.j0 k bt119.1 (a0_1 == 10) a0_0 a0_1 a0_2 a0_3 a0_4)) else (insn_Check.j0 k bt119.1 true a0_0 a0_1 a0_2 a0_3 a0_4))) else (insn_Check.j0 k bt119.1 true a0_0 a0_1 a0_2 a0_3 a0_4))) else (some 4))
theorem insn_Check.mono_l : ∀ k, (∀ y0 y1 y2 y3 y4 y5 y6, LeO (insn_Check.j0 k y0 y1 y2 y3 y4 y5 y6) (insn_Check.j0 (k + 1) y0 y1 y2 y3 y4 y5 y6)) ∧ (∀ y0 y1 y2 y3 y4 y5 y6, LeO (insn_Check.j1 k y0 y1 y2 y3 y4 y5 y6) (insn_Check.j1 (k + 1) y0 y1 y2 y3 y4 y5 y6))
 | 0 => ⟨fun _ _ _ _ _ _ _ r h => by simp [insn_Check.j0] at h, fun _ _ _ _ _ _ _ r h => by simp [insn_Check.j1] at h⟩
 | k + 1 => by
  obtain ⟨ih0, ih1⟩ := insn_Check.mono_l k
  refine ⟨?_, ?_⟩
  ·intro y0 y1 y2 y3 y4 y5 y6
   unfold insn_Check.j0
   repeat' first
   | (with_reducible exact ih0 _ _ _ _ _ _ _)
   | (with_reducible exact ih1 _ _ _ _ _ _ _)
   | (with_reducible exact insn_fits.mono _ _ _ _ _ _ _)
   | (with_reducible exact LeO.refl _)
   | (with_reducible exact LeO.none _)
   | (with_reducible refine LeO.ite ?_ ?_)
   | (with_reducible refine LeO.bind ?_ (fun _ => ?_))
   | exact ih0 _ _ _ _ _ _ _
   | exact ih1 _ _ _ _ _ _ _
   | exact insn_fits.mono _ _ _ _ _ _ _
   | exact LeO.none _
   | refine LeO.ite ?_ ?_
   | refine LeO.bind ?_ (fun _ => ?_)
  intro y0 y1 y2 y3 y4 y5 y6
  unfold insn_Check.j1
  repeat' first
  | (with_reducible exact ih0 _ _ _ _ _ _ _)
  | (with_reducible exact ih1 _ _ _ _ _ _ _)
  | (with_reducible exact insn_fits.mono _ _ _ _ _ _ _)
  | (with_reducible exact LeO.refl _)
  | (with_reducible exact LeO.none _)
  | (with_reducible refine LeO.ite ?_ ?_)
  | (with_reducible refine LeO.bind ?_ (fun _ => ?_))
  | exact ih0 _ _ _ _ _ _ _
  | exact ih1 _ _ _ _ _ _ _
  | exact insn_fits.mono _ _ _ _ _ _ _
  | exact LeO.none _
  | refine LeO.ite ?_ ?_
  | refine LeO.bind ?_ (fun _ => ?_)
theorem insn_Check.mono : ∀ a0 a1 a2 a3 a4 k, LeO (insn_Check.f k a0 a1 a2 a3 a4) (insn_Check.f (k + 1) a0 a1 a2 a3 a4) := by
 intro a0 a1 a2 a3 a4 k
 obtain ⟨ih0, ih1⟩ := insn_Check.mono_l k
 unfold insn_Check.f
 repeat' first
  | (with_reducible exact ih0 _ _ _ _ _ _ _)
  | (with_reducible exact ih1 _ _ _ _ _ _ _)
  | (with_reducible exact insn_fits.mono _ _ _ _ _ _ _)
  | (with_reducible exact LeO.refl _)
  | (with_reducible exact LeO.none _)
  | (with_reducible refine LeO.ite ?_ ?_)
  | (with_reducible refine LeO.bind ?_ (fun _ => ?_))
  | exact ih0 _ _ _ _ _ _ _
  | exact ih1 _ _ _ _ _ _ _
  | exact insn_fits.mono _ _ _ _ _ _ _
  | exact LeO.none _
  | refine LeO.ite ?_ ?_
  | refine LeO.bind ?_ (fun _ => ?_)
set_option maxHeartbeats 8000000 in
set_option maxRecDepth 100000 in
theorem insn_Check.calls (k : Nat) (a0_0 : Int) (a0_1 : Int) (a0_2 : Int) (a0_3 : Int) (a0_4 : Int) (r : Int) (w : World) (h : insn_Check.f k a0_0 a0_1 a0_2 a0_3 a0_4 = some r) :
 Calls Try.prog 25 #[.agg #[.int .i64 a0_0, .int .i64 a0_1, .int .i64 a0_2, .int .i64 a0_3, .int .i64 a0_4]] w fun e w' => e = .returned (.int .i64 r) ∧ Below w.heap.size w w' := by
 have hu40 := Try.underlying40
 have HB := Aside0.mk (Below.refl w.heap.size w)
 have H : ((insn_uses.f a0_0).bind fun bt119 => (if bt119.2 = true then ((insn_within.f a0_1 0 10).bind fun t121 => (if t121 = true then ((insn_within.f a0_2 0 10).bind fun t122 => (if t122 = true then (if (Go.bits .and .i64 bt119.1 16) = 0 then (insn_Check.j0 k bt119.1 false a0_0 a0_1 a0_2 a0_3 a0_4) else (insn_Check.j0 k bt119.1 (a0_1 == 10) a0_0 a0_1 a0_2 a0_3 a0_4)) else (insn_Check.j0 k bt119.1 true a0_0 a0_1 a0_2 a0_3 a0_4))) else (insn_Check.j0 k bt119.1 true a0_0 a0_1 a0_2 a0_3 a0_4))) else (some 4))) = some r := h
 clear h
 replace H := Option.bind_eq_some_iff.mp H
 obtain ⟨⟨t119, t120⟩, A20, H⟩ := H
 (try dsimp only at H)
 have A2 := Aside0.mk A20
 clear A20
 by_cases c3 : t120 = true
 rotate_left
 ·replace c3 := Bool.eq_false_iff.mpr c3
  subst c3
  have H1 := if0_ H
  clear H
  have H := H1
  clear H1
  obtain rfl := Option.some.inj H
  go_enter Try.func25, Try.ntmps25
  go_wp2_with (first | ((with_reducible refine gate_dst (N := 1) rfl ?_); refine bx_ 1 #[.int .i64 a0_0, .int .i64 a0_1, .int .i64 a0_2, .int .i64 a0_3, .int .i64 a0_4] 40 ?_; intro gb118 hg w32 BK118 hb; have GW118 := bg_ hg; have GE118 := GW118; replace HB := bl_ hb; clear hb hg; obtain ⟨zc33_0, zc33_1, zc33_2, zc33_3, zc33_4, zf33_0, zf33_1, zf33_2, zf33_3, zf33_4⟩ := k5_ BK118) | ((with_reducible refine gate_callee (f := 39) rfl ?_); refine gM_ 8 Try.func39 (insn_uses.calls a0_0 t119 false _ A2.out) ?_; rintro w' ⟨nd, rfl⟩))
  go_ret
  exact ⟨vv_, bz_⟩
 subst c3
 have H1 := if1_ H
 clear H
 have H := H1
 clear H1
 have HC4 := Aside0.mk H
 clear H
 go_enter Try.func25, Try.ntmps25
 go_upto_region 4 with (first | ((with_reducible refine gate_dst (N := 1) rfl ?_); refine bx_ 1 #[.int .i64 a0_0, .int .i64 a0_1, .int .i64 a0_2, .int .i64 a0_3, .int .i64 a0_4] 40 ?_; intro gb118 hg w5 BK118 hb; have GW118 := bg_ hg; have GE118 := GW118; replace HB := bl_ hb; clear hb hg; obtain ⟨zc6_0, zc6_1, zc6_2, zc6_3, zc6_4, zf6_0, zf6_1, zf6_2, zf6_3, zf6_4⟩ := k5_ BK118) | ((with_reducible refine gate_callee (f := 39) rfl ?_); refine gM_ 8 Try.func39 (insn_uses.calls a0_0 t119 true _ A2.out) ?_; rintro w' ⟨nd, rfl⟩))
 (try simp only [Act.put, s1_, s2_, s3_])
 go_cut [14] (fun v14 wc => ∃ (kq : Nat) (x14_3 : Bool), v14 = .bool x14_3 ∧ Aside0 (insn_Check.j0 kq t119 x14_3 a0_0 a0_1 a0_2 a0_3 a0_4 = some r) ∧ Aside0 (kq ≤ k) ∧ Aside0 (wc.heap[gb118]? = some (.cells #[.int .i64 a0_0, .int .i64 a0_1, .int .i64 a0_2, .int .i64 a0_3, .int .i64 a0_4] 40 (0, 0))) ∧ Aside0 (Below w.heap.size w wc))
 case first =>
  have H := HC4.out
  clear HC4
  replace H := Option.bind_eq_some_iff.mp H
  obtain ⟨t121, A70, H⟩ := H
  (try dsimp only at H)
  have A7 := Aside0.mk A70
  clear A70
  by_cases c8 : t121 = true
  rotate_left
  ·replace c8 := Bool.eq_false_iff.mpr c8
   subst c8
   have H1 := if0_ H
   clear H
   have H := H1
   clear H1
   have H' := Aside0.mk H
   clear H
   obtain ⟨zc15_0, zc15_1, zc15_2, zc15_3, zc15_4, zf15_0, zf15_1, zf15_2, zf15_3, zf15_4⟩ := k5_ BK118
   go_wp2_with (first | ((with_reducible refine gate_callee (f := 40) rfl ?_); refine gM_ 17 Try.func40 (insn_within.calls a0_1 0 10 false _ A7.out) ?_; rintro w' ⟨nd, rfl⟩))
   go_meet
   case rel => exact ⟨_, (true), vs_, H', ⟨by first | omega | exact Nat.le_refl _⟩, ⟨bk_⟩, ⟨bz_⟩⟩
  subst c8
  have H1 := if1_ H
  clear H
  have H := H1
  clear H1
  replace H := Option.bind_eq_some_iff.mp H
  obtain ⟨t122, A90, H⟩ := H
  (try dsimp only at H)
  have A9 := Aside0.mk A90
  clear A90
  by_cases c10 : t122 = true
  ·subst c10
   have H1 := if1_ H
   clear H
   have H := H1
   clear H1
   by_cases c11 : (Go.bits .and .i64 t119 16) = 0
   ·rw [if_pos c11] at H
    have c11b0 : ((Go.bits .and .i64 t119 16) == 0) = true := beq_iff_eq.mpr c11
    have c11b1 : ((Go.bits .and .i64 t119 16) != 0) = false := bne_eq_false_iff_eq.mpr c11
    clear c11
    (first | rw [c11b0] | (simp only [i64_w, i32_w]; rw [c11b0]) | skip)
    have H' := Aside0.mk H
    clear H
    obtain ⟨zc12_0, zc12_1, zc12_2, zc12_3, zc12_4, zf12_0, zf12_1, zf12_2, zf12_3, zf12_4⟩ := k5_ BK118
    go_wp2_with (first | ((with_reducible refine gate_callee (f := 40) rfl ?_); refine gM_ 17 Try.func40 (insn_within.calls a0_1 0 10 true _ A7.out) ?_; rintro w' ⟨nd, rfl⟩) | (go_at_call 40; (with_reducible refine (insn_within.calls a0_2 0 10 true _ A9.out).mono ?_); rintro e w' ⟨rfl, ⟨nd, rfl⟩⟩))
    go_meet
    case rel => exact ⟨_, (false), vs_, H', ⟨by first | omega | exact Nat.le_refl _⟩, ⟨bk_⟩, ⟨bz_⟩⟩
   rw [if_neg c11] at H
   have c11b0 : ((Go.bits .and .i64 t119 16) == 0) = false := beq_eq_false_iff_ne.mpr c11
   have c11b1 : ((Go.bits .and .i64 t119 16) != 0) = true := bne_iff_ne.mpr c11
   (first | rw [c11b0] | (simp only [i64_w, i32_w]; rw [c11b0]) | skip)
   have H' := Aside0.mk H
   clear H
   obtain ⟨zc13_0, zc13_1, zc13_2, zc13_3, zc13_4, zf13_0, zf13_1, zf13_2, zf13_3, zf13_4⟩ := k5_ BK118
   go_wp2_with (first | ((with_reducible refine gate_callee (f := 40) rfl ?_); refine gM_ 17 Try.func40 (insn_within.calls a0_1 0 10 true _ A7.out) ?_; rintro w' ⟨nd, rfl⟩) | (go_at_call 40; (with_reducible refine (insn_within.calls a0_2 0 10 true _ A9.out).mono ?_); rintro e w' ⟨rfl, ⟨nd, rfl⟩⟩))
   go_meet
   case rel => exact ⟨_, ((a0_1 == 10)), vs_, H', ⟨by first | omega | exact Nat.le_refl _⟩, ⟨bk_⟩, ⟨bz_⟩⟩
  replace c10 := Bool.eq_false_iff.mpr c10
  subst c10
  have H1 := if0_ H
  clear H
  have H := H1
  clear H1
  have H' := Aside0.mk H
  clear H
  obtain ⟨zc14_0, zc14_1, zc14_2, zc14_3, zc14_4, zf14_0, zf14_1, zf14_2, zf14_3, zf14_4⟩ := k5_ BK118
  go_wp2_with (first | ((with_reducible refine gate_callee (f := 40) rfl ?_); refine gM_ 17 Try.func40 (insn_within.calls a0_1 0 10 true _ A7.out) ?_; rintro w' ⟨nd, rfl⟩) | (go_at_call 40; (with_reducible refine (insn_within.calls a0_2 0 10 false _ A9.out).mono ?_); rintro e w' ⟨rfl, ⟨nd, rfl⟩⟩))
  go_meet
  case rel => exact ⟨_, (true), vs_, H', ⟨by first | omega | exact Nat.le_refl _⟩, ⟨bk_⟩, ⟨bz_⟩⟩
 case rest =>
  clear HC4
  try clear c1
  try clear c2
  try clear p2
  try clear c3
  try clear c4
  try clear c8
  try clear c10
  try clear c11
  try clear c11b0
  try clear c11b1
  try clear zc12_0
  try clear zc12_1
  try clear zc12_2
  try clear zc12_3
  try clear zc12_4
  try clear zc13_0
  try clear zc13_1
  try clear zc13_2
  try clear zc13_3
  try clear zc13_4
  try clear zc14_0
  try clear zc14_1
  try clear zc14_2
  try clear zc14_3
  try clear zc14_4
  try clear zc15_0
  try clear zc15_1
  try clear zc15_2
  try clear zc15_3
  try clear zc15_4
  try clear zc6_0
  try clear zc6_1
  try clear zc6_2
  try clear zc6_3
  try clear zc6_4
  try clear zf12_0
  try clear zf12_1
  try clear zf12_2
  try clear zf12_3
  try clear zf12_4
  try clear zf13_0
  try clear zf13_1
  try clear zf13_2
  try clear zf13_3
  try clear zf13_4
  try clear zf14_0
  try clear zf14_1
  try clear zf14_2
  try clear zf14_3
  try clear zf14_4
  try clear zf15_0
  try clear zf15_1
  try clear zf15_2
  try clear zf15_3
  try clear zf15_4
  try clear zf6_0
  try clear zf6_1
  try clear zf6_2
  try clear zf6_3
  try clear zf6_4
  obtain ⟨kq, x14_3, rfl, HA, HJ3, BK118, HB⟩ := hcut
  cases kq with
  | zero => exact absurd HA.out (by simp [insn_Check.j0])
  | succ kj3 =>
   have H := HA.out
   clear HA
   simp only [insn_Check.j0] at H
   by_cases c16 : x14_3 = true
   ·subst c16
    have H1 := if1_ H
    clear H
    have H := H1
    clear H1
    obtain rfl := Option.some.inj H
    go_wp2
    go_ret
    exact ⟨vv_, bz_⟩
   replace c16 := Bool.eq_false_iff.mpr c16
   subst c16
   have H1 := if0_ H
   clear H
   have H := H1
   clear H1
   have HC17 := Aside0.mk H
   clear H
   go_upto_region 6 with (fail)
   go_cut [35] (fun v35 wc => ∃ (kq : Nat) (x35_16 : Bool), v35 = .bool x35_16 ∧ Aside0 (insn_Check.j1 kq t119 x35_16 a0_0 a0_1 a0_2 a0_3 a0_4 = some r) ∧ Aside0 (kq ≤ kj3) ∧ Aside0 (wc.heap[gb118]? = some (.cells #[.int .i64 a0_0, .int .i64 a0_1, .int .i64 a0_2, .int .i64 a0_3, .int .i64 a0_4] 40 (0, 0))) ∧ Aside0 (Below w.heap.size w wc))
   case first =>
    have H := HC17.out
    clear HC17
    replace H := Option.bind_eq_some_iff.mp H
    obtain ⟨t123, A180, H⟩ := H
    (try dsimp only at H)
    have A18 := Aside0.mk A180
    clear A180
    by_cases c19 : t123 = true
    ·subst c19
     have H1 := if1_ H
     clear H
     have H := H1
     clear H1
     by_cases c20 : a0_0 = 24
     ·rw [if_pos c20] at H
      have c20b0 : (a0_0 == 24) = true := beq_iff_eq.mpr c20
      have c20b1 : (a0_0 != 24) = false := bne_eq_false_iff_eq.mpr c20
      clear c20
      (first | rw [c20b0] | (simp only [i64_w, i32_w]; rw [c20b0]) | skip)
      have H' := Aside0.mk H
      clear H
      obtain ⟨zc21_0, zc21_1, zc21_2, zc21_3, zc21_4, zf21_0, zf21_1, zf21_2, zf21_3, zf21_4⟩ := k5_ BK118
      go_wp2_with (first | ((with_reducible refine gate_callee (f := 41) rfl ?_); refine gM_ 38 Try.func41 (insn_has.calls a0_3 16 true _ A18.out) ?_; rintro w' ⟨nd, rfl⟩))
      go_meet
      case rel => exact ⟨_, (false), vs_, H', ⟨by have := HJ3.out; first | omega | exact Nat.le_refl _⟩, ⟨bk_⟩, ⟨bz_⟩⟩
     rw [if_neg c20] at H
     have c20b0 : (a0_0 == 24) = false := beq_eq_false_iff_ne.mpr c20
     have c20b1 : (a0_0 != 24) = true := bne_iff_ne.mpr c20
     (first | rw [c20b0] | (simp only [i64_w, i32_w]; rw [c20b0]) | skip)
     replace H := Option.bind_eq_some_iff.mp H
     obtain ⟨t124, A220, H⟩ := H
     (try dsimp only at H)
     have A22 := Aside0.mk A220
     clear A220
     have H' := Aside0.mk H
     clear H
     obtain ⟨zc23_0, zc23_1, zc23_2, zc23_3, zc23_4, zf23_0, zf23_1, zf23_2, zf23_3, zf23_4⟩ := k5_ BK118
     go_wp2_with (first | ((with_reducible refine gate_callee (f := 41) rfl ?_); refine gM_ 38 Try.func41 (insn_has.calls a0_3 16 true _ A18.out) ?_; rintro w' ⟨nd, rfl⟩) | (go_at_call 41; (with_reducible refine (insn_has.calls a0_4 32 t124 _ A22.out).mono ?_); rintro e w' ⟨rfl, ⟨nd, rfl⟩⟩))
     go_meet
     case rel => exact ⟨_, (!t124), vs_, H', ⟨by have := HJ3.out; first | omega | exact Nat.le_refl _⟩, ⟨bk_⟩, ⟨bz_⟩⟩
    replace c19 := Bool.eq_false_iff.mpr c19
    subst c19
    have H1 := if0_ H
    clear H
    have H := H1
    clear H1
    have H' := Aside0.mk H
    clear H
    obtain ⟨zc24_0, zc24_1, zc24_2, zc24_3, zc24_4, zf24_0, zf24_1, zf24_2, zf24_3, zf24_4⟩ := k5_ BK118
    go_wp2_with (first | ((with_reducible refine gate_callee (f := 41) rfl ?_); refine gM_ 38 Try.func41 (insn_has.calls a0_3 16 false _ A18.out) ?_; rintro w' ⟨nd, rfl⟩))
    go_meet
    case rel => exact ⟨_, (true), vs_, H', ⟨by have := HJ3.out; first | omega | exact Nat.le_refl _⟩, ⟨bk_⟩, ⟨bz_⟩⟩
   case rest =>
    clear HC17
    try clear c1
    try clear c2
    try clear p2
    try clear c3
    try clear c4
    try clear c8
    try clear c10
    try clear c11
    try clear c11b0
    try clear c11b1
    try clear c16
    try clear c19
    try clear c20
    try clear c20b0
    try clear c20b1
    try clear zc12_0
    try clear zc12_1
    try clear zc12_2
    try clear zc12_3
    try clear zc12_4
    try clear zc13_0
    try clear zc13_1
    try clear zc13_2
    try clear zc13_3
    try clear zc13_4
    try clear zc14_0
    try clear zc14_1
    try clear zc14_2
    try clear zc14_3
    try clear zc14_4
    try clear zc15_0
    try clear zc15_1
    try clear zc15_2
    try clear zc15_3
    try clear zc15_4
    try clear zc21_0
    try clear zc21_1
    try clear zc21_2
    try clear zc21_3
    try clear zc21_4
    try clear zc23_0
    try clear zc23_1
    try clear zc23_2
    try clear zc23_3
    try clear zc23_4
    try clear zc24_0
    try clear zc24_1
    try clear zc24_2
    try clear zc24_3
    try clear zc24_4
    try clear zc6_0
    try clear zc6_1
    try clear zc6_2
    try clear zc6_3
    try clear zc6_4
    try clear zf12_0
    try clear zf12_1
    try clear zf12_2
    try clear zf12_3
    try clear zf12_4
    try clear zf13_0
    try clear zf13_1
    try clear zf13_2
    try clear zf13_3
    try clear zf13_4
    try clear zf14_0
    try clear zf14_1
    try clear zf14_2
    try clear zf14_3
    try clear zf14_4
    try clear zf15_0
    try clear zf15_1
    try clear zf15_2
    try clear zf15_3
    try clear zf15_4
    try clear zf21_0
    try clear zf21_1
    try clear zf21_2
    try clear zf21_3
    try clear zf21_4
    try clear zf23_0
    try clear zf23_1
    try clear zf23_2
    try clear zf23_3
    try clear zf23_4
    try clear zf24_0
    try clear zf24_1
    try clear zf24_2
    try clear zf24_3
    try clear zf24_4
    try clear zf6_0
    try clear zf6_1
    try clear zf6_2
    try clear zf6_3
    try clear zf6_4
    try clear p2
    obtain ⟨kq, x35_16, rfl, HA, HJ16, BK118, HB⟩ := hcut
    cases kq with
    | zero => exact absurd HA.out (by simp [insn_Check.j1])
    | succ kj16 =>
     have H := HA.out
     clear HA
     simp only [insn_Check.j1] at H
     by_cases c25 : x35_16 = true
     ·subst c25
      have H1 := if1_ H
      clear H
      have H := H1
      clear H1
      obtain rfl := Option.some.inj H
      go_wp2
      go_ret
      exact ⟨vv_, bz_⟩
     replace c25 := Bool.eq_false_iff.mpr c25
     subst c25
     have H1 := if0_ H
     clear H
     have H := H1
     clear H1
     replace H := Option.bind_eq_some_iff.mp H
     obtain ⟨t125, A260, H⟩ := H
     (try dsimp only at H)
     have A26 := Aside0.mk A260
     clear A260
     by_cases c27 : t125 = true
     ·subst c27
      have H1 := if1_ H
      clear H
      have H := H1
      clear H1
      obtain rfl := Option.some.inj H
      obtain ⟨zc28_0, zc28_1, zc28_2, zc28_3, zc28_4, zf28_0, zf28_1, zf28_2, zf28_3, zf28_4⟩ := k5_ BK118
      go_wp2_with (first | ((with_reducible refine gate_callee (f := 42) rfl ?_); refine gM_ 54 Try.func42 (insn_fits.calls kj16 a0_0 a0_1 a0_2 a0_3 a0_4 t119 true _ A26.out) ?_; intro w29 hb; replace BK118 := bb_ hb BK118; replace HB := bl_ hb; (try clear hb); ))
      go_ret
      exact ⟨vv_, bz_⟩
     replace c27 := Bool.eq_false_iff.mpr c27
     subst c27
     have H1 := if0_ H
     clear H
     have H := H1
     clear H1
     obtain rfl := Option.some.inj H
     obtain ⟨zc30_0, zc30_1, zc30_2, zc30_3, zc30_4, zf30_0, zf30_1, zf30_2, zf30_3, zf30_4⟩ := k5_ BK118
     go_wp2_with (first | ((with_reducible refine gate_callee (f := 42) rfl ?_); refine gM_ 54 Try.func42 (insn_fits.calls kj16 a0_0 a0_1 a0_2 a0_3 a0_4 t119 false _ A26.out) ?_; intro w31 hb; replace BK118 := bb_ hb BK118; replace HB := bl_ hb; (try clear hb); ))
     go_ret
     exact ⟨vv_, bz_⟩
end Go.Proofs.Yticijjonimiooaa.PA
