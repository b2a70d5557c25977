import Derived.Test.YticijjonimiooaaPA0
import Derived.Test.YticijjonimiooaaSq
namespace Go.Proofs.Yticijjonimiooaa.PA
open Go.RowKit Go.Proofs.YticijjonimiooaaW.PrintWords Go.Proofs.YticijjonimiooaaW.PrintLast Go.Proofs.YticijjonimiooaaW.PrintMore
attribute [local go_sem] max2_int min2_int max_two min_two max_three min_three max_four min_four
set_option linter.unusedVariables false
set_option linter.unusedSimpArgs false
def insn_Size.f (a0_0 : Int) (a0_1 : Int) (a0_2 : Int) (a0_3 : Int) (a0_4 : Int) : Option (Int) := if a0_0 = 24 then (some 2) else (some 1)
set_option maxHeartbeats 8000000 in
set_option maxRecDepth 100000 in
theorem insn_Size.calls (a0_0 : Int) (a0_1 : Int) (a0_2 : Int) (a0_3 : Int) (a0_4 : Int) (r : Int) (w : World) (h : insn_Size.f a0_0 a0_1 a0_2 a0_3 a0_4 = some r) :
 Calls Try.prog 24 #[.agg #[.int .i64 a0_0, .int .i64 a0_1, .int .i64 a0_2, .int .i64 a0_3, .int .i64 a0_4]] w fun e w' => e = .returned (.int .i64 r) ∧ Below w.heap.size w w' := by
 have hu40 := Try.underlying40
 have HB := Aside0.mk (Below.refl w.heap.size w)
 have H : (if a0_0 = 24 then (some 2) else (some 1)) = some r := h
 clear h
 by_cases c2 : a0_0 = 24
 ·rw [if_pos c2] at H
  have c2b0 : (a0_0 == 24) = true := beq_iff_eq.mpr c2
  have c2b1 : (a0_0 != 24) = false := bne_eq_false_iff_eq.mpr c2
  clear c2
  obtain rfl := Option.some.inj H
  go_enter Try.func24, Try.ntmps24
  go_wp2_with (first | ((with_reducible refine gate_dst (N := 1) rfl ?_); refine bx_ 1 #[.int .i64 a0_0, .int .i64 a0_1, .int .i64 a0_2, .int .i64 a0_3, .int .i64 a0_4] 40 ?_; intro gb101 hg w3 BK101 hb; have GW101 := bg_ hg; have GE101 := GW101; replace HB := bl_ hb; clear hb hg; obtain ⟨zc4_0, zc4_1, zc4_2, zc4_3, zc4_4, zf4_0, zf4_1, zf4_2, zf4_3, zf4_4⟩ := k5_ BK101))
  go_ret
  exact ⟨vv_, bz_⟩
 rw [if_neg c2] at H
 have c2b0 : (a0_0 == 24) = false := beq_eq_false_iff_ne.mpr c2
 have c2b1 : (a0_0 != 24) = true := bne_iff_ne.mpr c2
 obtain rfl := Option.some.inj H
 go_enter Try.func24, Try.ntmps24
 go_wp2_with (first | ((with_reducible refine gate_dst (N := 1) rfl ?_); refine bx_ 1 #[.int .i64 a0_0, .int .i64 a0_1, .int .i64 a0_2, .int .i64 a0_3, .int .i64 a0_4] 40 ?_; intro gb101 hg w5 BK101 hb; have GW101 := bg_ hg; have GE101 := GW101; replace HB := bl_ hb; clear hb hg; obtain ⟨zc6_0, zc6_1, zc6_2, zc6_3, zc6_4, zf6_0, zf6_1, zf6_2, zf6_3, zf6_4⟩ := k5_ BK101))
 go_ret
 exact ⟨vv_, bz_⟩
def insn_within.f (a0 : Int) (a1 : Int) (a2 : Int) : Option (Bool) := if a0 ≥ a1 then (some (decide (a0 ≤ a2))) else (some false)
set_option maxHeartbeats 8000000 in
set_option maxRecDepth 100000 in
theorem insn_within.calls (a0 : Int) (a1 : Int) (a2 : Int) (r : Bool) (w : World) (h : insn_within.f a0 a1 a2 = some r) :
 Calls Try.prog 40 #[.int .i64 a0, .int .i64 a1, .int .i64 a2] w fun e w' => e = .returned (.bool r) ∧ Drawn0 w w' := by
 have H : (if a0 ≥ a1 then (some (decide (a0 ≤ a2))) else (some false)) = some r := h
 clear h
 by_cases c4 : a0 ≥ a1
 ·rw [if_pos c4] at H
  have c4b0 : decide (a1 ≤ a0) = true := decide_eq_true c4
  clear c4
  obtain rfl := Option.some.inj H
  go_enter Try.func40, Try.ntmps40
  go_wp2
  go_ret
  exact ⟨by first | rfl | (simp; done) | (simp [*]; done), by repeat (first | exact Drawn0.refl _ | apply Drawn0.step)⟩
 rw [if_neg c4] at H
 have c4b0 : decide (a1 ≤ a0) = false := decide_eq_false c4
 clear c4
 obtain rfl := Option.some.inj H
 go_enter Try.func40, Try.ntmps40
 go_wp2
 go_ret
 exact ⟨by first | rfl | (simp; done) | (simp [*]; done), by repeat (first | exact Drawn0.refl _ | apply Drawn0.step)⟩
def insn_memory.f (a0 : Int) : Option (Bool) := some ((a0 / 32) == 3)
set_option maxHeartbeats 8000000 in
set_option maxRecDepth 100000 in
theorem insn_memory.calls (a0 : Int) (r : Bool) (w : World) (h : insn_memory.f a0 = some r) :
 Calls Try.prog 46 #[.int .i64 a0] w fun e w' => e = .returned (.bool r) ∧ Drawn0 w w' := by
 have H : (some ((a0 / 32) == 3)) = some r := h
 clear h
 obtain rfl := Option.some.inj H
 go_enter Try.func46, Try.ntmps46
 go_wp2
 go_ret
 exact ⟨by first | rfl | (simp; done) | (simp [*]; done), by repeat (first | exact Drawn0.refl _ | apply Drawn0.step)⟩
def insn_either.f (a0 : Int) : Option (Int) := if (Go.bits .and .i64 a0 8) = 0 then (some 8) else (some 2)
set_option maxHeartbeats 8000000 in
set_option maxRecDepth 100000 in
theorem insn_either.calls (a0 : Int) (r : Int) (w : World) (h : insn_either.f a0 = some r) :
 Calls Try.prog 47 #[.int .i64 a0] w fun e w' => e = .returned (.int .i64 r) ∧ Drawn0 w w' := by
 have H : (if (Go.bits .and .i64 a0 8) = 0 then (some 8) else (some 2)) = some r := h
 clear h
 by_cases c2 : (Go.bits .and .i64 a0 8) = 0
 ·rw [if_pos c2] at H
  have c2b0 : ((Go.bits .and .i64 a0 8) == 0) = true := beq_iff_eq.mpr c2
  have c2b1 : ((Go.bits .and .i64 a0 8) != 0) = false := bne_eq_false_iff_eq.mpr c2
  clear c2
  obtain rfl := Option.some.inj H
  go_enter Try.func47, Try.ntmps47
  go_wp2
  go_ret
  exact ⟨by first | rfl | (simp; done) | (simp [*]; done), by repeat (first | exact Drawn0.refl _ | apply Drawn0.step)⟩
 rw [if_neg c2] at H
 have c2b0 : ((Go.bits .and .i64 a0 8) == 0) = false := beq_eq_false_iff_ne.mpr c2
 have c2b1 : ((Go.bits .and .i64 a0 8) != 0) = true := bne_iff_ne.mpr c2
 obtain rfl := Option.some.inj H
 go_enter Try.func47, Try.ntmps47
 go_wp2
 go_ret
 exact ⟨by first | rfl | (simp; done) | (simp [*]; done), by repeat (first | exact Drawn0.refl _ | apply Drawn0.step)⟩
def insn_jump.f (a0 : Int) : Option (Bool) := (insn_within.f (a0 / 16) 1 7).bind fun t102 => (if t102 = true then (some true) else ((insn_within.f (a0 / 16) 10 13).bind fun t103 => (some t103)))
set_option maxHeartbeats 8000000 in
set_option maxRecDepth 100000 in
theorem insn_jump.calls (a0 : Int) (r : Bool) (w : World) (h : insn_jump.f a0 = some r) :
 Calls Try.prog 48 #[.int .i64 a0] w fun e w' => e = .returned (.bool r) ∧ Drawn0 w w' := by
 have H : ((insn_within.f (a0 / 16) 1 7).bind fun t102 => (if t102 = true then (some true) else ((insn_within.f (a0 / 16) 10 13).bind fun t103 => (some t103)))) = some r := h
 clear h
 replace H := Option.bind_eq_some_iff.mp H
 obtain ⟨t102, A20, H⟩ := H
 (try dsimp only at H)
 have A2 := Aside0.mk A20
 clear A20
 by_cases c3 : t102 = true
 ·subst c3
  have H1 := if1_ H
  clear H
  have H := H1
  clear H1
  obtain rfl := Option.some.inj H
  go_enter Try.func48, Try.ntmps48
  go_wp2_with (first | ((with_reducible refine gate_callee (f := 40) rfl ?_); refine gM_ 7 Try.func40 (insn_within.calls (a0 / 16) 1 7 true _ A2.out) ?_; rintro w' ⟨nd, rfl⟩))
  go_ret
  exact ⟨by first | rfl | (simp; done) | (simp [*]; done), by repeat (first | exact Drawn0.refl _ | apply Drawn0.step)⟩
 replace c3 := Bool.eq_false_iff.mpr c3
 subst c3
 have H1 := if0_ H
 clear H
 have H := H1
 clear H1
 replace H := Option.bind_eq_some_iff.mp H
 obtain ⟨t103, A40, H⟩ := H
 (try dsimp only at H)
 have A4 := Aside0.mk A40
 clear A40
 obtain rfl := Option.some.inj H
 go_enter Try.func48, Try.ntmps48
 go_wp2_with (first | ((with_reducible refine gate_callee (f := 40) rfl ?_); refine gM_ 7 Try.func40 (insn_within.calls (a0 / 16) 1 7 false _ A2.out) ?_; rintro w' ⟨nd, rfl⟩) | (go_at_call 40; (with_reducible refine (insn_within.calls (a0 / 16) 10 13 t103 _ A4.out).mono ?_); rintro e w' ⟨rfl, ⟨nd, rfl⟩⟩))
 go_ret
 exact ⟨by first | rfl | (simp; done) | (simp [*]; done), by repeat (first | exact Drawn0.refl _ | apply Drawn0.step)⟩
def insn_arithmetic.f (a0 : Int) : Option (Int × Bool) := if (a0 / 16) = 8 then (some (17, ((Go.bits .and .i64 a0 8) == 0))) else (if (a0 / 16) = 13 then (some (25, ((Go.bits .and .i64 a0 7) == 4))) else ((insn_either.f a0).bind fun t104 => (some (Go.bits .or .i64 (Go.bits .or .i64 1 t104) 16, decide ((a0 / 16) ≤ 12)))))
set_option maxHeartbeats 8000000 in
set_option maxRecDepth 100000 in
theorem insn_arithmetic.calls (a0 : Int) (r1 : Int) (r2 : Bool) (w : World) (h : insn_arithmetic.f a0 = some (r1, r2)) :
 Calls Try.prog 49 #[.int .i64 a0] w fun e w' => e = .returned (.tuple #[.int .i64 r1, .bool r2]) ∧ Drawn0 w w' := by
 have H : (if (a0 / 16) = 8 then (some (17, ((Go.bits .and .i64 a0 8) == 0))) else (if (a0 / 16) = 13 then (some (25, ((Go.bits .and .i64 a0 7) == 4))) else ((insn_either.f a0).bind fun t104 => (some (Go.bits .or .i64 (Go.bits .or .i64 1 t104) 16, decide ((a0 / 16) ≤ 12)))))) = some (r1, r2) := h
 clear h
 by_cases c2 : (a0 / 16) = 8
 ·rw [if_pos c2] at H
  have c2b0 : ((a0 / 16) == 8) = true := beq_iff_eq.mpr c2
  have c2b1 : ((a0 / 16) != 8) = false := bne_eq_false_iff_eq.mpr c2
  clear c2
  simp only [Option.some.injEq, Prod.mk.injEq] at H
  obtain ⟨rfl, rfl⟩ := H
  go_enter Try.func49, Try.ntmps49
  go_wp2
  go_ret2
  exact ⟨by first | rfl | (simp; done) | (simp [*]; done), by repeat (first | exact Drawn0.refl _ | apply Drawn0.step)⟩
 rw [if_neg c2] at H
 have c2b0 : ((a0 / 16) == 8) = false := beq_eq_false_iff_ne.mpr c2
 have c2b1 : ((a0 / 16) != 8) = true := bne_iff_ne.mpr c2
 by_cases c3 : (a0 / 16) = 13
 ·rw [if_pos c3] at H
  have c3b0 : ((a0 / 16) == 13) = true := beq_iff_eq.mpr c3
  have c3b1 : ((a0 / 16) != 13) = false := bne_eq_false_iff_eq.mpr c3
  clear c3
  simp only [Option.some.injEq, Prod.mk.injEq] at H
  obtain ⟨rfl, rfl⟩ := H
  go_enter Try.func49, Try.ntmps49
  go_wp2
  go_ret2
  exact ⟨by first | rfl | (simp; done) | (simp [*]; done), by repeat (first | exact Drawn0.refl _ | apply Drawn0.step)⟩
 rw [if_neg c3] at H
 have c3b0 : ((a0 / 16) == 13) = false := beq_eq_false_iff_ne.mpr c3
 have c3b1 : ((a0 / 16) != 13) = true := bne_iff_ne.mpr c3
 replace H := Option.bind_eq_some_iff.mp H
 obtain ⟨t104, A40, H⟩ := H
 (try dsimp only at H)
 have A4 := Aside0.mk A40
 clear A40
 simp only [Option.some.injEq, Prod.mk.injEq] at H
 obtain ⟨rfl, rfl⟩ := H
 go_enter Try.func49, Try.ntmps49
 go_wp2_with (first | ((with_reducible refine gate_callee (f := 47) rfl ?_); refine gM_ 20 Try.func47 (insn_either.calls a0 t104 _ A4.out) ?_; rintro w' ⟨nd, rfl⟩))
 go_ret2
 exact ⟨by first | rfl | (simp; done) | (simp [*]; done), by repeat (first | exact Drawn0.refl _ | apply Drawn0.step)⟩
def insn_uses.f (a0 : Int) : Option (Int × Bool) := (insn_within.f a0 0 255).bind fun t105 => (if t105 = true then (if (Go.bits .and .i64 a0 7) = 0 then (some (27, (a0 == 24))) else (if (Go.bits .and .i64 a0 7) = 1 then ((insn_memory.f a0).bind fun t106 => (some (23, t106))) else (if (Go.bits .and .i64 a0 7) = 2 then ((insn_memory.f a0).bind fun t107 => (some (13, t107))) else (if (Go.bits .and .i64 a0 7) = 3 then ((insn_memory.f a0).bind fun t108 => (some (7, t108))) else (if (Go.bits .and .i64 a0 7) = 5 then (if a0 = 5 then (some (4, true)) else (if a0 = 133 then (some (8, true)) else (if a0 = 149 then (some (0, true)) else ((insn_either.f a0).bind fun t113 => ((insn_jump.f a0).bind fun t114 => (some (Go.bits .or .i64 (Go.bits .or .i64 1 t113) 4, t114))))))) else (if (Go.bits .and .i64 a0 7) = 6 then ((insn_either.f a0).bind fun t109 => ((insn_jump.f a0).bind fun t110 => (some (Go.bits .or .i64 (Go.bits .or .i64 1 t109) 4, t110)))) else ((insn_arithmetic.f a0).bind fun bt111 => (some (bt111.1, bt111.2))))))))) else (some (0, false)))
set_option maxHeartbeats 8000000 in
set_option maxRecDepth 100000 in
theorem insn_uses.calls (a0 : Int) (r1 : Int) (r2 : Bool) (w : World) (h : insn_uses.f a0 = some (r1, r2)) :
 Calls Try.prog 39 #[.int .i64 a0] w fun e w' => e = .returned (.tuple #[.int .i64 r1, .bool r2]) ∧ Drawn0 w w' := by
 have H : ((insn_within.f a0 0 255).bind fun t105 => (if t105 = true then (if (Go.bits .and .i64 a0 7) = 0 then (some (27, (a0 == 24))) else (if (Go.bits .and .i64 a0 7) = 1 then ((insn_memory.f a0).bind fun t106 => (some (23, t106))) else (if (Go.bits .and .i64 a0 7) = 2 then ((insn_memory.f a0).bind fun t107 => (some (13, t107))) else (if (Go.bits .and .i64 a0 7) = 3 then ((insn_memory.f a0).bind fun t108 => (some (7, t108))) else (if (Go.bits .and .i64 a0 7) = 5 then (if a0 = 5 then (some (4, true)) else (if a0 = 133 then (some (8, true)) else (if a0 = 149 then (some (0, true)) else ((insn_either.f a0).bind fun t113 => ((insn_jump.f a0).bind fun t114 => (some (Go.bits .or .i64 (Go.bits .or .i64 1 t113) 4, t114))))))) else (if (Go.bits .and .i64 a0 7) = 6 then ((insn_either.f a0).bind fun t109 => ((insn_jump.f a0).bind fun t110 => (some (Go.bits .or .i64 (Go.bits .or .i64 1 t109) 4, t110)))) else ((insn_arithmetic.f a0).bind fun bt111 => (some (bt111.1, bt111.2))))))))) else (some (0, false)))) = some (r1, r2) := h
 clear h
 replace H := Option.bind_eq_some_iff.mp H
 obtain ⟨t105, A20, H⟩ := H
 (try dsimp only at H)
 have A2 := Aside0.mk A20
 clear A20
 by_cases c3 : t105 = true
 rotate_left
 ·replace c3 := Bool.eq_false_iff.mpr c3
  subst c3
  have H1 := if0_ H
  clear H
  have H := H1
  clear H1
  simp only [Option.some.injEq, Prod.mk.injEq] at H
  obtain ⟨rfl, rfl⟩ := H
  go_enter Try.func39, Try.ntmps39
  go_wp2_with (first | ((with_reducible refine gate_callee (f := 40) rfl ?_); refine gM_ 5 Try.func40 (insn_within.calls a0 0 255 false _ A2.out) ?_; rintro w' ⟨nd, rfl⟩))
  go_ret2
  exact ⟨by first | rfl | (simp; done) | (simp [*]; done), by repeat (first | exact Drawn0.refl _ | apply Drawn0.step)⟩
 subst c3
 have H1 := if1_ H
 clear H
 have H := H1
 clear H1
 by_cases c4 : (Go.bits .and .i64 a0 7) = 0
 ·rw [if_pos c4] at H
  have c4b0 : ((Go.bits .and .i64 a0 7) == 0) = true := beq_iff_eq.mpr c4
  have c4b1 : ((Go.bits .and .i64 a0 7) != 0) = false := bne_eq_false_iff_eq.mpr c4
  clear c4
  simp only [Option.some.injEq, Prod.mk.injEq] at H
  obtain ⟨rfl, rfl⟩ := H
  go_enter Try.func39, Try.ntmps39
  go_wp2_with (first | ((with_reducible refine gate_callee (f := 40) rfl ?_); refine gM_ 5 Try.func40 (insn_within.calls a0 0 255 true _ A2.out) ?_; rintro w' ⟨nd, rfl⟩))
  go_ret2
  exact ⟨by first | rfl | (simp; done) | (simp [*]; done), by repeat (first | exact Drawn0.refl _ | apply Drawn0.step)⟩
 rw [if_neg c4] at H
 have c4b0 : ((Go.bits .and .i64 a0 7) == 0) = false := beq_eq_false_iff_ne.mpr c4
 have c4b1 : ((Go.bits .and .i64 a0 7) != 0) = true := bne_iff_ne.mpr c4
 by_cases c5 : (Go.bits .and .i64 a0 7) = 1
 ·rw [if_pos c5] at H
  have c5b0 : ((Go.bits .and .i64 a0 7) == 1) = true := beq_iff_eq.mpr c5
  have c5b1 : ((Go.bits .and .i64 a0 7) != 1) = false := bne_eq_false_iff_eq.mpr c5
  clear c5
  replace H := Option.bind_eq_some_iff.mp H
  obtain ⟨t106, A60, H⟩ := H
  (try dsimp only at H)
  have A6 := Aside0.mk A60
  clear A60
  simp only [Option.some.injEq, Prod.mk.injEq] at H
  obtain ⟨rfl, rfl⟩ := H
  go_enter Try.func39, Try.ntmps39
  go_wp2_with (first | ((with_reducible refine gate_callee (f := 40) rfl ?_); refine gM_ 5 Try.func40 (insn_within.calls a0 0 255 true _ A2.out) ?_; rintro w' ⟨nd, rfl⟩) | ((with_reducible refine gate_callee (f := 46) rfl ?_); refine gM_ 24 Try.func46 (insn_memory.calls a0 t106 _ A6.out) ?_; rintro w' ⟨nd, rfl⟩))
  go_ret2
  exact ⟨by first | rfl | (simp; done) | (simp [*]; done), by repeat (first | exact Drawn0.refl _ | apply Drawn0.step)⟩
 rw [if_neg c5] at H
 have c5b0 : ((Go.bits .and .i64 a0 7) == 1) = false := beq_eq_false_iff_ne.mpr c5
 have c5b1 : ((Go.bits .and .i64 a0 7) != 1) = true := bne_iff_ne.mpr c5
 by_cases c7 : (Go.bits .and .i64 a0 7) = 2
 ·rw [if_pos c7] at H
  have c7b0 : ((Go.bits .and .i64 a0 7) == 2) = true := beq_iff_eq.mpr c7
  have c7b1 : ((Go.bits .and .i64 a0 7) != 2) = false := bne_eq_false_iff_eq.mpr c7
  clear c7
  replace H := Option.bind_eq_some_iff.mp H
  obtain ⟨t107, A80, H⟩ := H
  (try dsimp only at H)
  have A8 := Aside0.mk A80
  clear A80
  simp only [Option.some.injEq, Prod.mk.injEq] at H
  obtain ⟨rfl, rfl⟩ := H
  go_enter Try.func39, Try.ntmps39
  go_wp2_with (first | ((with_reducible refine gate_callee (f := 40) rfl ?_); refine gM_ 5 Try.func40 (insn_within.calls a0 0 255 true _ A2.out) ?_; rintro w' ⟨nd, rfl⟩) | ((with_reducible refine gate_callee (f := 46) rfl ?_); refine gM_ 26 Try.func46 (insn_memory.calls a0 t107 _ A8.out) ?_; rintro w' ⟨nd, rfl⟩))
  go_ret2
  exact ⟨by first | rfl | (simp; done) | (simp [*]; done), by repeat (first | exact Drawn0.refl _ | apply Drawn0.step)⟩
 rw [if_neg c7] at H
 have c7b0 : ((Go.bits .and .i64 a0 7) == 2) = false := beq_eq_false_iff_ne.mpr c7
 have c7b1 : ((Go.bits .and .i64 a0 7) != 2) = true := bne_iff_ne.mpr c7
 by_cases c9 : (Go.bits .and .i64 a0 7) = 3
 ·rw [if_pos c9] at H
  have c9b0 : ((Go.bits .and .i64 a0 7) == 3) = true := beq_iff_eq.mpr c9
  have c9b1 : ((Go.bits .and .i64 a0 7) != 3) = false := bne_eq_false_iff_eq.mpr c9
  clear c9
  replace H := Option.bind_eq_some_iff.mp H
  obtain ⟨t108, A100, H⟩ := H
  (try dsimp only at H)
  have A10 := Aside0.mk A100
  clear A100
  simp only [Option.some.injEq, Prod.mk.injEq] at H
  obtain ⟨rfl, rfl⟩ := H
  go_enter Try.func39, Try.ntmps39
  go_wp2_with (first | ((with_reducible refine gate_callee (f := 40) rfl ?_); refine gM_ 5 Try.func40 (insn_within.calls a0 0 255 true _ A2.out) ?_; rintro w' ⟨nd, rfl⟩) | ((with_reducible refine gate_callee (f := 46) rfl ?_); refine gM_ 28 Try.func46 (insn_memory.calls a0 t108 _ A10.out) ?_; rintro w' ⟨nd, rfl⟩))
  go_ret2
  exact ⟨by first | rfl | (simp; done) | (simp [*]; done), by repeat (first | exact Drawn0.refl _ | apply Drawn0.step)⟩
 rw [if_neg c9] at H
 have c9b0 : ((Go.bits .and .i64 a0 7) == 3) = false := beq_eq_false_iff_ne.mpr c9
 have c9b1 : ((Go.bits .and .i64 a0 7) != 3) = true := bne_iff_ne.mpr c9
 by_cases c11 : (Go.bits .and .i64 a0 7) = 5
 rotate_left
 ·rw [if_neg c11] at H
  have c11b0 : ((Go.bits .and .i64 a0 7) == 5) = false := beq_eq_false_iff_ne.mpr c11
  have c11b1 : ((Go.bits .and .i64 a0 7) != 5) = true := bne_iff_ne.mpr c11
  by_cases c17 : (Go.bits .and .i64 a0 7) = 6
  ·rw [if_pos c17] at H
   have c17b0 : ((Go.bits .and .i64 a0 7) == 6) = true := beq_iff_eq.mpr c17
   have c17b1 : ((Go.bits .and .i64 a0 7) != 6) = false := bne_eq_false_iff_eq.mpr c17
   clear c17
   replace H := Option.bind_eq_some_iff.mp H
   obtain ⟨t109, A180, H⟩ := H
   (try dsimp only at H)
   have A18 := Aside0.mk A180
   clear A180
   replace H := Option.bind_eq_some_iff.mp H
   obtain ⟨t110, A190, H⟩ := H
   (try dsimp only at H)
   have A19 := Aside0.mk A190
   clear A190
   simp only [Option.some.injEq, Prod.mk.injEq] at H
   obtain ⟨rfl, rfl⟩ := H
   go_enter Try.func39, Try.ntmps39
   go_wp2_with (first | ((with_reducible refine gate_callee (f := 40) rfl ?_); refine gM_ 5 Try.func40 (insn_within.calls a0 0 255 true _ A2.out) ?_; rintro w' ⟨nd, rfl⟩) | ((with_reducible refine gate_callee (f := 47) rfl ?_); refine gM_ 37 Try.func47 (insn_either.calls a0 t109 _ A18.out) ?_; rintro w' ⟨nd, rfl⟩) | ((with_reducible refine gate_callee (f := 48) rfl ?_); refine gM_ 41 Try.func48 (insn_jump.calls a0 t110 _ A19.out) ?_; rintro w' ⟨nd, rfl⟩))
   go_ret2
   exact ⟨by first | rfl | (simp; done) | (simp [*]; done), by repeat (first | exact Drawn0.refl _ | apply Drawn0.step)⟩
  rw [if_neg c17] at H
  have c17b0 : ((Go.bits .and .i64 a0 7) == 6) = false := beq_eq_false_iff_ne.mpr c17
  have c17b1 : ((Go.bits .and .i64 a0 7) != 6) = true := bne_iff_ne.mpr c17
  replace H := Option.bind_eq_some_iff.mp H
  obtain ⟨⟨t111, t112⟩, A200, H⟩ := H
  (try dsimp only at H)
  have A20 := Aside0.mk A200
  clear A200
  simp only [Option.some.injEq, Prod.mk.injEq] at H
  obtain ⟨rfl, rfl⟩ := H
  go_enter Try.func39, Try.ntmps39
  go_wp2_with (first | ((with_reducible refine gate_callee (f := 40) rfl ?_); refine gM_ 5 Try.func40 (insn_within.calls a0 0 255 true _ A2.out) ?_; rintro w' ⟨nd, rfl⟩) | ((with_reducible refine gate_callee (f := 49) rfl ?_); refine gM_ 43 Try.func49 (insn_arithmetic.calls a0 t111 t112 _ A20.out) ?_; rintro w' ⟨nd, rfl⟩))
  go_ret2
  exact ⟨by first | rfl | (simp; done) | (simp [*]; done), by repeat (first | exact Drawn0.refl _ | apply Drawn0.step)⟩
 rw [if_pos c11] at H
 have c11b0 : ((Go.bits .and .i64 a0 7) == 5) = true := beq_iff_eq.mpr c11
 have c11b1 : ((Go.bits .and .i64 a0 7) != 5) = false := bne_eq_false_iff_eq.mpr c11
 clear c11
 by_cases c12 : a0 = 5
 ·rw [if_pos c12] at H
  have c12b0 : (a0 == 5) = true := beq_iff_eq.mpr c12
  have c12b1 : (a0 != 5) = false := bne_eq_false_iff_eq.mpr c12
  clear c12
  simp only [Option.some.injEq, Prod.mk.injEq] at H
  obtain ⟨rfl, rfl⟩ := H
  go_enter Try.func39, Try.ntmps39
  go_wp2_with (first | ((with_reducible refine gate_callee (f := 40) rfl ?_); refine gM_ 5 Try.func40 (insn_within.calls a0 0 255 true _ A2.out) ?_; rintro w' ⟨nd, rfl⟩))
  go_ret2
  exact ⟨by first | rfl | (simp; done) | (simp [*]; done), by repeat (first | exact Drawn0.refl _ | apply Drawn0.step)⟩
 rw [if_neg c12] at H
 have c12b0 : (a0 == 5) = false := beq_eq_false_iff_ne.mpr c12
 have c12b1 : (a0 != 5) = true := bne_iff_ne.mpr c12
 by_cases c13 : a0 = 133
 ·rw [if_pos c13] at H
  have c13b0 : (a0 == 133) = true := beq_iff_eq.mpr c13
  have c13b1 : (a0 != 133) = false := bne_eq_false_iff_eq.mpr c13
  clear c13
  simp only [Option.some.injEq, Prod.mk.injEq] at H
  obtain ⟨rfl, rfl⟩ := H
  go_enter Try.func39, Try.ntmps39
  go_wp2_with (first | ((with_reducible refine gate_callee (f := 40) rfl ?_); refine gM_ 5 Try.func40 (insn_within.calls a0 0 255 true _ A2.out) ?_; rintro w' ⟨nd, rfl⟩))
  go_ret2
  exact ⟨by first | rfl | (simp; done) | (simp [*]; done), by repeat (first | exact Drawn0.refl _ | apply Drawn0.step)⟩
 rw [if_neg c13] at H
 have c13b0 : (a0 == 133) = false := beq_eq_false_iff_ne.mpr c13
 have c13b1 : (a0 != 133) = true := bne_iff_ne.mpr c13
 by_cases c14 : a0 = 149
 ·rw [if_pos c14] at H
  have c14b0 : (a0 == 149) = true := beq_iff_eq.mpr c14
  have c14b1 : (a0 != 149) = false := bne_eq_false_iff_eq.mpr c14
  clear c14
  simp only [Option.some.injEq, Prod.mk.injEq] at H
  obtain ⟨rfl, rfl⟩ := H
  go_enter Try.func39, Try.ntmps39
  go_wp2_with (first | ((with_reducible refine gate_callee (f := 40) rfl ?_); refine gM_ 5 Try.func40 (insn_within.calls a0 0 255 true _ A2.out) ?_; rintro w' ⟨nd, rfl⟩))
  go_ret2
  exact ⟨by first | rfl | (simp; done) | (simp [*]; done), by repeat (first | exact Drawn0.refl _ | apply Drawn0.step)⟩
 rw [if_neg c14] at H
 have c14b0 : (a0 == 149) = false := beq_eq_false_iff_ne.mpr c14
 have c14b1 : (a0 != 149) = true := bne_iff_ne.mpr c14
 replace H := Option.bind_eq_some_iff.mp H
 obtain ⟨t113, A150, H⟩ := H
 (try dsimp only at H)
 have A15 := Aside0.mk A150
 clear A150
 replace H := Option.bind_eq_some_iff.mp H
 obtain ⟨t114, A160, H⟩ := H
 (try dsimp only at H)
 have A16 := Aside0.mk A160
 clear A160
 simp only [Option.some.injEq, Prod.mk.injEq] at H
 obtain ⟨rfl, rfl⟩ := H
 go_enter Try.func39, Try.ntmps39
 go_wp2_with (first | ((with_reducible refine gate_callee (f := 40) rfl ?_); refine gM_ 5 Try.func40 (insn_within.calls a0 0 255 true _ A2.out) ?_; rintro w' ⟨nd, rfl⟩) | ((with_reducible refine gate_callee (f := 47) rfl ?_); refine gM_ 37 Try.func47 (insn_either.calls a0 t113 _ A15.out) ?_; rintro w' ⟨nd, rfl⟩) | ((with_reducible refine gate_callee (f := 48) rfl ?_); refine gM_ 41 Try.func48 (insn_jump.calls a0 t114 _ A16.out) ?_; rintro w' ⟨nd, rfl⟩))
 go_ret2
 exact ⟨by first | rfl | (simp; done) | (simp [*]; done), by repeat (first | exact Drawn0.refl _ | apply Drawn0.step)⟩
def insn_has.f (a0 : Int) (a1 : Int) : Option (Bool) := if 0 ≤ (wrap64 (a1 - 1)) then ((insn_within.f a0 (shl .i64 (-1) (wrap64 (a1 - 1))) (wrap64 ((shl .i64 1 (wrap64 (a1 - 1))) - 1))).bind fun t115 => (some t115)) else (none)
set_option maxHeartbeats 8000000 in
set_option maxRecDepth 100000 in
theorem insn_has.calls (a0 : Int) (a1 : Int) (r : Bool) (w : World) (h : insn_has.f a0 a1 = some r) :
 Calls Try.prog 41 #[.int .i64 a0, .int .i64 a1] w fun e w' => e = .returned (.bool r) ∧ Drawn0 w w' := by
 have H : (if 0 ≤ (wrap64 (a1 - 1)) then ((insn_within.f a0 (shl .i64 (-1) (wrap64 (a1 - 1))) (wrap64 ((shl .i64 1 (wrap64 (a1 - 1))) - 1))).bind fun t115 => (some t115)) else (none)) = some r := h
 clear h
 obtain ⟨ji3, hji3⟩ : ∃ j_ : Int, (wrap64 (a1 - 1)) = j_ := ⟨_, rfl⟩
 replace H : (if 0 ≤ (ji3) then ((insn_within.f a0 (shl .i64 (-1) (ji3)) (wrap64 ((shl .i64 1 (ji3)) - 1))).bind fun t115 => (some t115)) else (none)) = some r := by first | (rw [hji3] at H; exact H) | (simp only [hji3] at H ⊢; exact H)
 have hji3w : (IntKind.i64.wrap (a1 - 1)) = ji3 := (i64_w _).trans hji3
 by_cases c4 : 0 ≤ (ji3)
 rotate_left
 ·rw [if_neg c4] at H
  exact absurd H (by simp)
 rw [if_pos c4] at H
 have c4b0 := eq_true c4
 have c4b1 : decide (0 ≤ (ji3)) = true := decide_eq_true c4
 clear c4
 obtain ⟨ji5, hji5⟩ : ∃ j_ : Int, (shl .i64 (-1) (ji3)) = j_ := ⟨_, rfl⟩
 replace H : ((insn_within.f a0 (ji5) (wrap64 ((shl .i64 1 (ji3)) - 1))).bind fun t115 => (some t115)) = some r := by first | (rw [hji5] at H; exact H) | (simp only [hji5] at H ⊢; exact H)
 have hji5_ : (IntKind.i64.wrap ((-1) * 2 ^ min (ji3).toNat 64)) = ji5 := hji5
 have hji5z : (ji3) ≤ 64 → (IntKind.i64.wrap ((-1) * 2 ^ (ji3).toNat)) = ji5 := shl_small hji5
 have hji5y : (wrap64 ((-1) * 2 ^ min (ji3).toNat 64)) = ji5 := (i64_w _).symm.trans hji5_
 have hji5x : (ji3) ≤ 64 → (wrap64 ((-1) * 2 ^ (ji3).toNat)) = ji5 := fun h_ => (i64_w _).symm.trans (hji5z h_)
 have hji5a : (IntKind.i64.wrap (-(2 ^ min (ji3).toNat 64))) = ji5 := by have h_ := hji5_; rw [Int.neg_one_mul] at h_; exact h_
 have hji5b : (wrap64 (-(2 ^ min (ji3).toNat 64))) = ji5 := (i64_w _).symm.trans hji5a
 have hji5c : (ji3) ≤ 64 → (IntKind.i64.wrap (-(2 ^ (ji3).toNat))) = ji5 := fun hle_ => by have h_ := hji5z hle_; rw [Int.neg_one_mul] at h_; exact h_
 have hji5d : (ji3) ≤ 64 → (wrap64 (-(2 ^ (ji3).toNat))) = ji5 := fun h_ => (i64_w _).symm.trans (hji5c h_)
 have c6b0 := eq_true (of_decide_eq_true as_ : 0 ≤ (ji3))
 obtain ⟨ji7, hji7⟩ : ∃ j_ : Int, (shl .i64 1 (ji3)) = j_ := ⟨_, rfl⟩
 replace H : ((insn_within.f a0 (ji5) (wrap64 ((ji7) - 1))).bind fun t115 => (some t115)) = some r := by first | (rw [hji7] at H; exact H) | (simp only [hji7] at H ⊢; exact H)
 have hji7_ : (IntKind.i64.wrap (1 * 2 ^ min (ji3).toNat 64)) = ji7 := hji7
 have hji7z : (ji3) ≤ 64 → (IntKind.i64.wrap (1 * 2 ^ (ji3).toNat)) = ji7 := shl_small hji7
 have hji7u : (IntKind.i64.wrap (2 ^ min (ji3).toNat 64)) = ji7 := by have h_ := hji7_; rw [Int.one_mul] at h_; exact h_
 have hji7v : (ji3) ≤ 64 → (IntKind.i64.wrap (2 ^ (ji3).toNat)) = ji7 := fun hle_ => by have h_ := hji7z hle_; rw [Int.one_mul] at h_; exact h_
 have hji7y : (wrap64 (1 * 2 ^ min (ji3).toNat 64)) = ji7 := (i64_w _).symm.trans hji7_
 have hji7x : (ji3) ≤ 64 → (wrap64 (1 * 2 ^ (ji3).toNat)) = ji7 := fun h_ => (i64_w _).symm.trans (hji7z h_)
 replace H := Option.bind_eq_some_iff.mp H
 obtain ⟨t115, A80, H⟩ := H
 (try dsimp only at H)
 have A8 := Aside0.mk A80
 clear A80
 obtain rfl := Option.some.inj H
 go_enter Try.func41, Try.ntmps41
 go_wp2_with (first | (go_at_call 40; (with_reducible refine (insn_within.calls a0 ji5 (wrap64 ((ji7) - 1)) t115 _ A8.out).mono ?_); rintro e w' ⟨rfl, ⟨nd, rfl⟩⟩; (try first | exact ⟨rfl, _, World.drewN_drewN _ _ _⟩ | exact ⟨rfl, _, Eq.trans (World.drewN_drewN _ _ _) (congrArg (World.drewN _) (Nat.add_assoc _ _ _))⟩)))
 repeat (go_quiet (first | (go_at_call 40; (with_reducible refine (insn_within.calls a0 ji5 (wrap64 ((ji7) - 1)) t115 _ A8.out).mono ?_); rintro e w' ⟨rfl, ⟨nd, rfl⟩⟩; (try first | exact ⟨rfl, _, World.drewN_drewN _ _ _⟩ | exact ⟨rfl, _, Eq.trans (World.drewN_drewN _ _ _) (congrArg (World.drewN _) (Nat.add_assoc _ _ _))⟩))); try go_wp2_with (first | (go_at_call 40; (with_reducible refine (insn_within.calls a0 ji5 (wrap64 ((ji7) - 1)) t115 _ A8.out).mono ?_); rintro e w' ⟨rfl, ⟨nd, rfl⟩⟩; (try first | exact ⟨rfl, _, World.drewN_drewN _ _ _⟩ | exact ⟨rfl, _, Eq.trans (World.drewN_drewN _ _ _) (congrArg (World.drewN _) (Nat.add_assoc _ _ _))⟩))))
 go_ret
 exact ⟨by first | rfl | (simp; done) | (simp only [← hji3, ← hji5, ← hji7] <;> (first | rfl | simp)) | (simp [*]; done), by repeat (first | exact Drawn0.refl _ | apply Drawn0.step)⟩
end Go.Proofs.Yticijjonimiooaa.PA
