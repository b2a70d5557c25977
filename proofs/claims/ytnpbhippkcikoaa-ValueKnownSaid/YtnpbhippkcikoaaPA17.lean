-- PRINTED by print.py (a twelfth state) out of the translation. Not trusted: Lean checks it.
import Derived.Test.YtnpbhippkcikoaaPA0
import Derived.Test.YtnpbhippkcikoaaSq
import Derived.Test.YtnpbhippkcikoaaPA11
import Derived.Test.YtnpbhippkcikoaaPA12
import Derived.Test.YtnpbhippkcikoaaPA16
namespace Go.Proofs.Ytnpbhippkcikoaa.PA
open Go.RowKit Go.Proofs.YtnpbhippkcikoaaW.PrintWords Go.Proofs.YtnpbhippkcikoaaW.PrintLast Go.Proofs.YtnpbhippkcikoaaW.PrintMore
attribute [local go_sem] max2_int min2_int max_two min_two max_three min_three max_four min_four   -- for this text's walks alone
set_option linter.unusedVariables false
set_option linter.unusedSimpArgs false

/-! ### lockgateref01_Jump: function 32 -/
def lockgateref01_Jump.j0 : Nat → Int → Int → Int → Int → Option (Bool × Bool)
 | 0, _, _, _, _ => none
 | k + 1, x0, x2, x3, x10 => (lockgateref01_Low.f x2 x10).bind fun t280 => ((lockgateref01_Low.f x3 x10).bind fun t281 => ((lockgateref01_order.f k t280 t281 x10 false).bind fun t282 => ((lockgateref01_order.f k t280 t281 x10 true).bind fun t283 => (if x0 = 1 then (some ((t282 == 0), true)) else (if x0 = 2 then (some (decide (t282 > 0), true)) else (if x0 = 3 then (some (decide (t282 ≥ 0), true)) else (if x0 = 4 then ((lockgateref01_bits.f k 5 t280 t281).bind fun t284 => (some (decide (t284 > 0), true))) else (if x0 = 5 then (some ((t282 != 0), true)) else (if x0 = 6 then (some (decide (t283 > 0), true)) else (if x0 = 7 then (some (decide (t283 ≥ 0), true)) else (if x0 = 10 then (some (decide (t282 < 0), true)) else (if x0 = 11 then (some (decide (t282 ≤ 0), true)) else (if x0 = 12 then (some (decide (t283 < 0), true)) else (if x0 = 13 then (some (decide (t283 ≤ 0), true)) else (some (false, false))))))))))))))))
def lockgateref01_Jump.f (k : Nat) (a0 : Int) (a1 : Bool) (a2 : Int) (a3 : Int) : Option (Bool × Bool) := if a1 = true then (lockgateref01_Jump.j0 k a0 a2 a3 64) else (lockgateref01_Jump.j0 k a0 a2 a3 32)
theorem lockgateref01_Jump.mono_l : ∀ k, (∀ y0 y1 y2 y3, LeO (lockgateref01_Jump.j0 k y0 y1 y2 y3) (lockgateref01_Jump.j0 (k + 1) y0 y1 y2 y3))
 | 0 => fun _ _ _ _ r h => by simp [lockgateref01_Jump.j0] at h
 | k + 1 => by
  have ih0 := lockgateref01_Jump.mono_l k
  ·intro y0 y1 y2 y3
   unfold lockgateref01_Jump.j0
   repeat' first
   | (with_reducible exact ih0 _ _ _ _)
   | (with_reducible exact lockgateref01_bits.mono _ _ _ _)
   | (with_reducible exact lockgateref01_order.mono _ _ _ _ _)
   | (with_reducible exact LeO.refl _)
   | (with_reducible exact LeO.none _)
   | (with_reducible refine LeO.ite ?_ ?_)
   | (with_reducible refine LeO.bind ?_ (fun _ => ?_))
   | exact ih0 _ _ _ _
   | exact lockgateref01_bits.mono _ _ _ _
   | exact lockgateref01_order.mono _ _ _ _ _
   | exact LeO.none _
   | refine LeO.ite ?_ ?_
   | refine LeO.bind ?_ (fun _ => ?_)
theorem lockgateref01_Jump.mono : ∀ a0 a1 a2 a3 k, LeO (lockgateref01_Jump.f k a0 a1 a2 a3) (lockgateref01_Jump.f (k + 1) a0 a1 a2 a3) := by
 intro a0 a1 a2 a3 k
 have ih0 := lockgateref01_Jump.mono_l k
 unfold lockgateref01_Jump.f
 repeat' first
  | (with_reducible exact ih0 _ _ _ _)
  | (with_reducible exact lockgateref01_bits.mono _ _ _ _)
  | (with_reducible exact lockgateref01_order.mono _ _ _ _ _)
  | (with_reducible exact LeO.refl _)
  | (with_reducible exact LeO.none _)
  | (with_reducible refine LeO.ite ?_ ?_)
  | (with_reducible refine LeO.bind ?_ (fun _ => ?_))
  | exact ih0 _ _ _ _
  | exact lockgateref01_bits.mono _ _ _ _
  | exact lockgateref01_order.mono _ _ _ _ _
  | exact LeO.none _
  | refine LeO.ite ?_ ?_
  | refine LeO.bind ?_ (fun _ => ?_)
set_option maxHeartbeats 8000000 in
set_option maxRecDepth 100000 in
theorem lockgateref01_Jump.calls (k : Nat) (a0 : Int) (a1 : Bool) (a2 : Int) (a3 : Int) (r1 : Bool) (r2 : Bool) (w : World) (h : lockgateref01_Jump.f k a0 a1 a2 a3 = some (r1, r2)) :
 Calls Try.prog 32 #[.int .i64 a0, .bool a1, .int .u64 a2, .int .u64 a3] w fun e w' => e = .returned (.tuple #[.bool r1, .bool r2]) ∧ Drawn0 w w' := by
 have H : (if a1 = true then (lockgateref01_Jump.j0 k a0 a2 a3 64) else (lockgateref01_Jump.j0 k a0 a2 a3 32)) = some (r1, r2) := h
 clear h
 have HC5 := Aside0.mk H
 clear H
 go_enter Try.func32, Try.ntmps32
 go_upto_if 14 with (fail)
 go_cut [10] (fun v10 wc => ∃ (kq : Nat) (x10_4 : Int), v10 = .int .i64 x10_4 ∧ Aside0 (lockgateref01_Jump.j0 kq a0 a2 a3 x10_4 = some (r1, r2)) ∧ Aside0 (kq ≤ k) ∧ Drawn0 w wc)
 case first =>
  have H := HC5.out
  clear HC5
  by_cases c6 : a1 = true
  ·subst c6
   have H1 : (lockgateref01_Jump.j0 k a0 a2 a3 64) = some (r1, r2) := by rw [if_pos rfl] at H; exact H
   clear H
   have H := H1
   clear H1
   have H' := Aside0.mk H
   clear H
   go_wp2
   go_meet
   case rel => exact ⟨_, (64), (by first | rfl | (simp; done) | (simp [*]; done)), H', ⟨by first | omega | exact Nat.le_refl _⟩, by repeat (first | exact Drawn0.refl _ | apply Drawn0.step)⟩
  ·replace c6 := Bool.eq_false_iff.mpr c6
   subst c6
   have H1 : (lockgateref01_Jump.j0 k a0 a2 a3 32) = some (r1, r2) := by rw [if_neg (show ¬ (false = true) by decide)] at H; exact H
   clear H
   have H := H1
   clear H1
   have H' := Aside0.mk H
   clear H
   go_wp2
   go_meet
   case rel => exact ⟨_, (32), (by first | rfl | (simp; done) | (simp [*]; done)), H', ⟨by first | omega | exact Nat.le_refl _⟩, by repeat (first | exact Drawn0.refl _ | apply Drawn0.step)⟩
 case rest =>
  clear HC5
  try clear p2
  try clear c3
  try clear c6
  obtain ⟨kq, x10_4, rfl, HA, HJ4, ⟨mc4, rfl⟩⟩ := hcut
  cases kq with
  | zero => exact absurd HA.out (by simp [lockgateref01_Jump.j0])
  | succ kj4 =>
   have H := HA.out
   clear HA
   simp only [lockgateref01_Jump.j0] at H
   replace H := Option.bind_eq_some_iff.mp H
   obtain ⟨t280, A70, H⟩ := H
   replace H : ((lockgateref01_Low.f a3 x10_4).bind fun t281 => ((lockgateref01_order.f kj4 t280 t281 x10_4 false).bind fun t282 => ((lockgateref01_order.f kj4 t280 t281 x10_4 true).bind fun t283 => (if a0 = 1 then (some ((t282 == 0), true)) else (if a0 = 2 then (some (decide (t282 > 0), true)) else (if a0 = 3 then (some (decide (t282 ≥ 0), true)) else (if a0 = 4 then ((lockgateref01_bits.f kj4 5 t280 t281).bind fun t284 => (some (decide (t284 > 0), true))) else (if a0 = 5 then (some ((t282 != 0), true)) else (if a0 = 6 then (some (decide (t283 > 0), true)) else (if a0 = 7 then (some (decide (t283 ≥ 0), true)) else (if a0 = 10 then (some (decide (t282 < 0), true)) else (if a0 = 11 then (some (decide (t282 ≤ 0), true)) else (if a0 = 12 then (some (decide (t283 < 0), true)) else (if a0 = 13 then (some (decide (t283 ≤ 0), true)) else (some (false, false)))))))))))))))) = some (r1, r2) := H
   have A7 := Aside0.mk A70
   clear A70
   replace H := Option.bind_eq_some_iff.mp H
   obtain ⟨t281, A80, H⟩ := H
   replace H : ((lockgateref01_order.f kj4 t280 t281 x10_4 false).bind fun t282 => ((lockgateref01_order.f kj4 t280 t281 x10_4 true).bind fun t283 => (if a0 = 1 then (some ((t282 == 0), true)) else (if a0 = 2 then (some (decide (t282 > 0), true)) else (if a0 = 3 then (some (decide (t282 ≥ 0), true)) else (if a0 = 4 then ((lockgateref01_bits.f kj4 5 t280 t281).bind fun t284 => (some (decide (t284 > 0), true))) else (if a0 = 5 then (some ((t282 != 0), true)) else (if a0 = 6 then (some (decide (t283 > 0), true)) else (if a0 = 7 then (some (decide (t283 ≥ 0), true)) else (if a0 = 10 then (some (decide (t282 < 0), true)) else (if a0 = 11 then (some (decide (t282 ≤ 0), true)) else (if a0 = 12 then (some (decide (t283 < 0), true)) else (if a0 = 13 then (some (decide (t283 ≤ 0), true)) else (some (false, false))))))))))))))) = some (r1, r2) := H
   have A8 := Aside0.mk A80
   clear A80
   replace H := Option.bind_eq_some_iff.mp H
   obtain ⟨t282, A90, H⟩ := H
   replace H : ((lockgateref01_order.f kj4 t280 t281 x10_4 true).bind fun t283 => (if a0 = 1 then (some ((t282 == 0), true)) else (if a0 = 2 then (some (decide (t282 > 0), true)) else (if a0 = 3 then (some (decide (t282 ≥ 0), true)) else (if a0 = 4 then ((lockgateref01_bits.f kj4 5 t280 t281).bind fun t284 => (some (decide (t284 > 0), true))) else (if a0 = 5 then (some ((t282 != 0), true)) else (if a0 = 6 then (some (decide (t283 > 0), true)) else (if a0 = 7 then (some (decide (t283 ≥ 0), true)) else (if a0 = 10 then (some (decide (t282 < 0), true)) else (if a0 = 11 then (some (decide (t282 ≤ 0), true)) else (if a0 = 12 then (some (decide (t283 < 0), true)) else (if a0 = 13 then (some (decide (t283 ≤ 0), true)) else (some (false, false)))))))))))))) = some (r1, r2) := H
   have A9 := Aside0.mk A90
   clear A90
   replace H := Option.bind_eq_some_iff.mp H
   obtain ⟨t283, A100, H⟩ := H
   replace H : (if a0 = 1 then (some ((t282 == 0), true)) else (if a0 = 2 then (some (decide (t282 > 0), true)) else (if a0 = 3 then (some (decide (t282 ≥ 0), true)) else (if a0 = 4 then ((lockgateref01_bits.f kj4 5 t280 t281).bind fun t284 => (some (decide (t284 > 0), true))) else (if a0 = 5 then (some ((t282 != 0), true)) else (if a0 = 6 then (some (decide (t283 > 0), true)) else (if a0 = 7 then (some (decide (t283 ≥ 0), true)) else (if a0 = 10 then (some (decide (t282 < 0), true)) else (if a0 = 11 then (some (decide (t282 ≤ 0), true)) else (if a0 = 12 then (some (decide (t283 < 0), true)) else (if a0 = 13 then (some (decide (t283 ≤ 0), true)) else (some (false, false))))))))))))) = some (r1, r2) := H
   have A10 := Aside0.mk A100
   clear A100
   by_cases c11 : a0 = 1
   ·rw [if_pos c11] at H
    have c11b0 : (a0 == 1) = true := beq_iff_eq.mpr c11
    have c11b1 : (a0 != 1) = false := bne_eq_false_iff_eq.mpr c11
    clear c11
    simp only [Option.some.injEq, Prod.mk.injEq] at H
    obtain ⟨rfl, rfl⟩ := H
    go_wp2_with (first | ((with_reducible refine gate_callee (f := 39) rfl ?_); refine gM_ 17 Try.func39 (lockgateref01_Low.calls a2 x10_4 t280 _ A7.out) ?_; rintro w' ⟨nd, rfl⟩) | ((with_reducible refine gate_callee (f := 39) rfl ?_); refine gM_ 20 Try.func39 (lockgateref01_Low.calls a3 x10_4 t281 _ A8.out) ?_; rintro w' ⟨nd, rfl⟩) | ((with_reducible refine gate_callee (f := 47) rfl ?_); refine gM_ 24 Try.func47 (lockgateref01_order.calls kj4 t280 t281 x10_4 false t282 _ A9.out) ?_; rintro w' ⟨nd, rfl⟩) | ((with_reducible refine gate_callee (f := 47) rfl ?_); refine gM_ 28 Try.func47 (lockgateref01_order.calls kj4 t280 t281 x10_4 true t283 _ A10.out) ?_; rintro w' ⟨nd, rfl⟩))
    go_ret2
    exact ⟨by first | rfl | (simp; done) | (simp [*]; done), by repeat (first | exact Drawn0.refl _ | apply Drawn0.step)⟩
   ·rw [if_neg c11] at H
    have c11b0 : (a0 == 1) = false := beq_eq_false_iff_ne.mpr c11
    have c11b1 : (a0 != 1) = true := bne_iff_ne.mpr c11
    by_cases c12 : a0 = 2
    ·rw [if_pos c12] at H
     have c12b0 : (a0 == 2) = true := beq_iff_eq.mpr c12
     have c12b1 : (a0 != 2) = false := bne_eq_false_iff_eq.mpr c12
     clear c12
     simp only [Option.some.injEq, Prod.mk.injEq] at H
     obtain ⟨rfl, rfl⟩ := H
     go_wp2_with (first | ((with_reducible refine gate_callee (f := 39) rfl ?_); refine gM_ 17 Try.func39 (lockgateref01_Low.calls a2 x10_4 t280 _ A7.out) ?_; rintro w' ⟨nd, rfl⟩) | ((with_reducible refine gate_callee (f := 39) rfl ?_); refine gM_ 20 Try.func39 (lockgateref01_Low.calls a3 x10_4 t281 _ A8.out) ?_; rintro w' ⟨nd, rfl⟩) | ((with_reducible refine gate_callee (f := 47) rfl ?_); refine gM_ 24 Try.func47 (lockgateref01_order.calls kj4 t280 t281 x10_4 false t282 _ A9.out) ?_; rintro w' ⟨nd, rfl⟩) | ((with_reducible refine gate_callee (f := 47) rfl ?_); refine gM_ 28 Try.func47 (lockgateref01_order.calls kj4 t280 t281 x10_4 true t283 _ A10.out) ?_; rintro w' ⟨nd, rfl⟩))
     go_ret2
     exact ⟨by first | rfl | (simp; done) | (simp [*]; done), by repeat (first | exact Drawn0.refl _ | apply Drawn0.step)⟩
    ·rw [if_neg c12] at H
     have c12b0 : (a0 == 2) = false := beq_eq_false_iff_ne.mpr c12
     have c12b1 : (a0 != 2) = true := bne_iff_ne.mpr c12
     by_cases c13 : a0 = 3
     ·rw [if_pos c13] at H
      have c13b0 : (a0 == 3) = true := beq_iff_eq.mpr c13
      have c13b1 : (a0 != 3) = false := bne_eq_false_iff_eq.mpr c13
      clear c13
      simp only [Option.some.injEq, Prod.mk.injEq] at H
      obtain ⟨rfl, rfl⟩ := H
      go_wp2_with (first | ((with_reducible refine gate_callee (f := 39) rfl ?_); refine gM_ 17 Try.func39 (lockgateref01_Low.calls a2 x10_4 t280 _ A7.out) ?_; rintro w' ⟨nd, rfl⟩) | ((with_reducible refine gate_callee (f := 39) rfl ?_); refine gM_ 20 Try.func39 (lockgateref01_Low.calls a3 x10_4 t281 _ A8.out) ?_; rintro w' ⟨nd, rfl⟩) | ((with_reducible refine gate_callee (f := 47) rfl ?_); refine gM_ 24 Try.func47 (lockgateref01_order.calls kj4 t280 t281 x10_4 false t282 _ A9.out) ?_; rintro w' ⟨nd, rfl⟩) | ((with_reducible refine gate_callee (f := 47) rfl ?_); refine gM_ 28 Try.func47 (lockgateref01_order.calls kj4 t280 t281 x10_4 true t283 _ A10.out) ?_; rintro w' ⟨nd, rfl⟩))
      go_ret2
      exact ⟨by first | rfl | (simp; done) | (simp [*]; done), by repeat (first | exact Drawn0.refl _ | apply Drawn0.step)⟩
     ·rw [if_neg c13] at H
      have c13b0 : (a0 == 3) = false := beq_eq_false_iff_ne.mpr c13
      have c13b1 : (a0 != 3) = true := bne_iff_ne.mpr c13
      by_cases c14 : a0 = 4
      ·rw [if_pos c14] at H
       have c14b0 : (a0 == 4) = true := beq_iff_eq.mpr c14
       have c14b1 : (a0 != 4) = false := bne_eq_false_iff_eq.mpr c14
       clear c14
       replace H := Option.bind_eq_some_iff.mp H
       obtain ⟨t284, A150, H⟩ := H
       replace H : (some (decide (t284 > 0), true)) = some (r1, r2) := H
       have A15 := Aside0.mk A150
       clear A150
       simp only [Option.some.injEq, Prod.mk.injEq] at H
       obtain ⟨rfl, rfl⟩ := H
       go_wp2_with (first | ((with_reducible refine gate_callee (f := 39) rfl ?_); refine gM_ 17 Try.func39 (lockgateref01_Low.calls a2 x10_4 t280 _ A7.out) ?_; rintro w' ⟨nd, rfl⟩) | ((with_reducible refine gate_callee (f := 39) rfl ?_); refine gM_ 20 Try.func39 (lockgateref01_Low.calls a3 x10_4 t281 _ A8.out) ?_; rintro w' ⟨nd, rfl⟩) | ((with_reducible refine gate_callee (f := 47) rfl ?_); refine gM_ 24 Try.func47 (lockgateref01_order.calls kj4 t280 t281 x10_4 false t282 _ A9.out) ?_; rintro w' ⟨nd, rfl⟩) | ((with_reducible refine gate_callee (f := 47) rfl ?_); refine gM_ 28 Try.func47 (lockgateref01_order.calls kj4 t280 t281 x10_4 true t283 _ A10.out) ?_; rintro w' ⟨nd, rfl⟩) | ((with_reducible refine gate_callee (f := 44) rfl ?_); refine gM_ 46 Try.func44 (lockgateref01_bits.calls kj4 5 t280 t281 t284 _ A15.out) ?_; rintro w' ⟨nd, rfl⟩))
       go_ret2
       exact ⟨by first | rfl | (simp; done) | (simp [*]; done), by repeat (first | exact Drawn0.refl _ | apply Drawn0.step)⟩
      ·rw [if_neg c14] at H
       have c14b0 : (a0 == 4) = false := beq_eq_false_iff_ne.mpr c14
       have c14b1 : (a0 != 4) = true := bne_iff_ne.mpr c14
       by_cases c16 : a0 = 5
       ·rw [if_pos c16] at H
        have c16b0 : (a0 == 5) = true := beq_iff_eq.mpr c16
        have c16b1 : (a0 != 5) = false := bne_eq_false_iff_eq.mpr c16
        clear c16
        simp only [Option.some.injEq, Prod.mk.injEq] at H
        obtain ⟨rfl, rfl⟩ := H
        go_wp2_with (first | ((with_reducible refine gate_callee (f := 39) rfl ?_); refine gM_ 17 Try.func39 (lockgateref01_Low.calls a2 x10_4 t280 _ A7.out) ?_; rintro w' ⟨nd, rfl⟩) | ((with_reducible refine gate_callee (f := 39) rfl ?_); refine gM_ 20 Try.func39 (lockgateref01_Low.calls a3 x10_4 t281 _ A8.out) ?_; rintro w' ⟨nd, rfl⟩) | ((with_reducible refine gate_callee (f := 47) rfl ?_); refine gM_ 24 Try.func47 (lockgateref01_order.calls kj4 t280 t281 x10_4 false t282 _ A9.out) ?_; rintro w' ⟨nd, rfl⟩) | ((with_reducible refine gate_callee (f := 47) rfl ?_); refine gM_ 28 Try.func47 (lockgateref01_order.calls kj4 t280 t281 x10_4 true t283 _ A10.out) ?_; rintro w' ⟨nd, rfl⟩))
        go_ret2
        exact ⟨by first | rfl | (simp; done) | (simp [*]; done), by repeat (first | exact Drawn0.refl _ | apply Drawn0.step)⟩
       ·rw [if_neg c16] at H
        have c16b0 : (a0 == 5) = false := beq_eq_false_iff_ne.mpr c16
        have c16b1 : (a0 != 5) = true := bne_iff_ne.mpr c16
        by_cases c17 : a0 = 6
        ·rw [if_pos c17] at H
         have c17b0 : (a0 == 6) = true := beq_iff_eq.mpr c17
         have c17b1 : (a0 != 6) = false := bne_eq_false_iff_eq.mpr c17
         clear c17
         simp only [Option.some.injEq, Prod.mk.injEq] at H
         obtain ⟨rfl, rfl⟩ := H
         go_wp2_with (first | ((with_reducible refine gate_callee (f := 39) rfl ?_); refine gM_ 17 Try.func39 (lockgateref01_Low.calls a2 x10_4 t280 _ A7.out) ?_; rintro w' ⟨nd, rfl⟩) | ((with_reducible refine gate_callee (f := 39) rfl ?_); refine gM_ 20 Try.func39 (lockgateref01_Low.calls a3 x10_4 t281 _ A8.out) ?_; rintro w' ⟨nd, rfl⟩) | ((with_reducible refine gate_callee (f := 47) rfl ?_); refine gM_ 24 Try.func47 (lockgateref01_order.calls kj4 t280 t281 x10_4 false t282 _ A9.out) ?_; rintro w' ⟨nd, rfl⟩) | ((with_reducible refine gate_callee (f := 47) rfl ?_); refine gM_ 28 Try.func47 (lockgateref01_order.calls kj4 t280 t281 x10_4 true t283 _ A10.out) ?_; rintro w' ⟨nd, rfl⟩))
         go_ret2
         exact ⟨by first | rfl | (simp; done) | (simp [*]; done), by repeat (first | exact Drawn0.refl _ | apply Drawn0.step)⟩
        ·rw [if_neg c17] at H
         have c17b0 : (a0 == 6) = false := beq_eq_false_iff_ne.mpr c17
         have c17b1 : (a0 != 6) = true := bne_iff_ne.mpr c17
         by_cases c18 : a0 = 7
         ·rw [if_pos c18] at H
          have c18b0 : (a0 == 7) = true := beq_iff_eq.mpr c18
          have c18b1 : (a0 != 7) = false := bne_eq_false_iff_eq.mpr c18
          clear c18
          simp only [Option.some.injEq, Prod.mk.injEq] at H
          obtain ⟨rfl, rfl⟩ := H
          go_wp2_with (first | ((with_reducible refine gate_callee (f := 39) rfl ?_); refine gM_ 17 Try.func39 (lockgateref01_Low.calls a2 x10_4 t280 _ A7.out) ?_; rintro w' ⟨nd, rfl⟩) | ((with_reducible refine gate_callee (f := 39) rfl ?_); refine gM_ 20 Try.func39 (lockgateref01_Low.calls a3 x10_4 t281 _ A8.out) ?_; rintro w' ⟨nd, rfl⟩) | ((with_reducible refine gate_callee (f := 47) rfl ?_); refine gM_ 24 Try.func47 (lockgateref01_order.calls kj4 t280 t281 x10_4 false t282 _ A9.out) ?_; rintro w' ⟨nd, rfl⟩) | ((with_reducible refine gate_callee (f := 47) rfl ?_); refine gM_ 28 Try.func47 (lockgateref01_order.calls kj4 t280 t281 x10_4 true t283 _ A10.out) ?_; rintro w' ⟨nd, rfl⟩))
          go_ret2
          exact ⟨by first | rfl | (simp; done) | (simp [*]; done), by repeat (first | exact Drawn0.refl _ | apply Drawn0.step)⟩
         ·rw [if_neg c18] at H
          have c18b0 : (a0 == 7) = false := beq_eq_false_iff_ne.mpr c18
          have c18b1 : (a0 != 7) = true := bne_iff_ne.mpr c18
          by_cases c19 : a0 = 10
          ·rw [if_pos c19] at H
           have c19b0 : (a0 == 10) = true := beq_iff_eq.mpr c19
           have c19b1 : (a0 != 10) = false := bne_eq_false_iff_eq.mpr c19
           clear c19
           simp only [Option.some.injEq, Prod.mk.injEq] at H
           obtain ⟨rfl, rfl⟩ := H
           go_wp2_with (first | ((with_reducible refine gate_callee (f := 39) rfl ?_); refine gM_ 17 Try.func39 (lockgateref01_Low.calls a2 x10_4 t280 _ A7.out) ?_; rintro w' ⟨nd, rfl⟩) | ((with_reducible refine gate_callee (f := 39) rfl ?_); refine gM_ 20 Try.func39 (lockgateref01_Low.calls a3 x10_4 t281 _ A8.out) ?_; rintro w' ⟨nd, rfl⟩) | ((with_reducible refine gate_callee (f := 47) rfl ?_); refine gM_ 24 Try.func47 (lockgateref01_order.calls kj4 t280 t281 x10_4 false t282 _ A9.out) ?_; rintro w' ⟨nd, rfl⟩) | ((with_reducible refine gate_callee (f := 47) rfl ?_); refine gM_ 28 Try.func47 (lockgateref01_order.calls kj4 t280 t281 x10_4 true t283 _ A10.out) ?_; rintro w' ⟨nd, rfl⟩))
           go_ret2
           exact ⟨by first | rfl | (simp; done) | (simp [*]; done), by repeat (first | exact Drawn0.refl _ | apply Drawn0.step)⟩
          ·rw [if_neg c19] at H
           have c19b0 : (a0 == 10) = false := beq_eq_false_iff_ne.mpr c19
           have c19b1 : (a0 != 10) = true := bne_iff_ne.mpr c19
           by_cases c20 : a0 = 11
           ·rw [if_pos c20] at H
            have c20b0 : (a0 == 11) = true := beq_iff_eq.mpr c20
            have c20b1 : (a0 != 11) = false := bne_eq_false_iff_eq.mpr c20
            clear c20
            simp only [Option.some.injEq, Prod.mk.injEq] at H
            obtain ⟨rfl, rfl⟩ := H
            go_wp2_with (first | ((with_reducible refine gate_callee (f := 39) rfl ?_); refine gM_ 17 Try.func39 (lockgateref01_Low.calls a2 x10_4 t280 _ A7.out) ?_; rintro w' ⟨nd, rfl⟩) | ((with_reducible refine gate_callee (f := 39) rfl ?_); refine gM_ 20 Try.func39 (lockgateref01_Low.calls a3 x10_4 t281 _ A8.out) ?_; rintro w' ⟨nd, rfl⟩) | ((with_reducible refine gate_callee (f := 47) rfl ?_); refine gM_ 24 Try.func47 (lockgateref01_order.calls kj4 t280 t281 x10_4 false t282 _ A9.out) ?_; rintro w' ⟨nd, rfl⟩) | ((with_reducible refine gate_callee (f := 47) rfl ?_); refine gM_ 28 Try.func47 (lockgateref01_order.calls kj4 t280 t281 x10_4 true t283 _ A10.out) ?_; rintro w' ⟨nd, rfl⟩))
            go_ret2
            exact ⟨by first | rfl | (simp; done) | (simp [*]; done), by repeat (first | exact Drawn0.refl _ | apply Drawn0.step)⟩
           ·rw [if_neg c20] at H
            have c20b0 : (a0 == 11) = false := beq_eq_false_iff_ne.mpr c20
            have c20b1 : (a0 != 11) = true := bne_iff_ne.mpr c20
            by_cases c21 : a0 = 12
            ·rw [if_pos c21] at H
             have c21b0 : (a0 == 12) = true := beq_iff_eq.mpr c21
             have c21b1 : (a0 != 12) = false := bne_eq_false_iff_eq.mpr c21
             clear c21
             simp only [Option.some.injEq, Prod.mk.injEq] at H
             obtain ⟨rfl, rfl⟩ := H
             go_wp2_with (first | ((with_reducible refine gate_callee (f := 39) rfl ?_); refine gM_ 17 Try.func39 (lockgateref01_Low.calls a2 x10_4 t280 _ A7.out) ?_; rintro w' ⟨nd, rfl⟩) | ((with_reducible refine gate_callee (f := 39) rfl ?_); refine gM_ 20 Try.func39 (lockgateref01_Low.calls a3 x10_4 t281 _ A8.out) ?_; rintro w' ⟨nd, rfl⟩) | ((with_reducible refine gate_callee (f := 47) rfl ?_); refine gM_ 24 Try.func47 (lockgateref01_order.calls kj4 t280 t281 x10_4 false t282 _ A9.out) ?_; rintro w' ⟨nd, rfl⟩) | ((with_reducible refine gate_callee (f := 47) rfl ?_); refine gM_ 28 Try.func47 (lockgateref01_order.calls kj4 t280 t281 x10_4 true t283 _ A10.out) ?_; rintro w' ⟨nd, rfl⟩))
             go_ret2
             exact ⟨by first | rfl | (simp; done) | (simp [*]; done), by repeat (first | exact Drawn0.refl _ | apply Drawn0.step)⟩
            ·rw [if_neg c21] at H
             have c21b0 : (a0 == 12) = false := beq_eq_false_iff_ne.mpr c21
             have c21b1 : (a0 != 12) = true := bne_iff_ne.mpr c21
             by_cases c22 : a0 = 13
             ·rw [if_pos c22] at H
              have c22b0 : (a0 == 13) = true := beq_iff_eq.mpr c22
              have c22b1 : (a0 != 13) = false := bne_eq_false_iff_eq.mpr c22
              clear c22
              simp only [Option.some.injEq, Prod.mk.injEq] at H
              obtain ⟨rfl, rfl⟩ := H
              go_wp2_with (first | ((with_reducible refine gate_callee (f := 39) rfl ?_); refine gM_ 17 Try.func39 (lockgateref01_Low.calls a2 x10_4 t280 _ A7.out) ?_; rintro w' ⟨nd, rfl⟩) | ((with_reducible refine gate_callee (f := 39) rfl ?_); refine gM_ 20 Try.func39 (lockgateref01_Low.calls a3 x10_4 t281 _ A8.out) ?_; rintro w' ⟨nd, rfl⟩) | ((with_reducible refine gate_callee (f := 47) rfl ?_); refine gM_ 24 Try.func47 (lockgateref01_order.calls kj4 t280 t281 x10_4 false t282 _ A9.out) ?_; rintro w' ⟨nd, rfl⟩) | ((with_reducible refine gate_callee (f := 47) rfl ?_); refine gM_ 28 Try.func47 (lockgateref01_order.calls kj4 t280 t281 x10_4 true t283 _ A10.out) ?_; rintro w' ⟨nd, rfl⟩))
              go_ret2
              exact ⟨by first | rfl | (simp; done) | (simp [*]; done), by repeat (first | exact Drawn0.refl _ | apply Drawn0.step)⟩
             ·rw [if_neg c22] at H
              have c22b0 : (a0 == 13) = false := beq_eq_false_iff_ne.mpr c22
              have c22b1 : (a0 != 13) = true := bne_iff_ne.mpr c22
              simp only [Option.some.injEq, Prod.mk.injEq] at H
              obtain ⟨rfl, rfl⟩ := H
              go_wp2_with (first | ((with_reducible refine gate_callee (f := 39) rfl ?_); refine gM_ 17 Try.func39 (lockgateref01_Low.calls a2 x10_4 t280 _ A7.out) ?_; rintro w' ⟨nd, rfl⟩) | ((with_reducible refine gate_callee (f := 39) rfl ?_); refine gM_ 20 Try.func39 (lockgateref01_Low.calls a3 x10_4 t281 _ A8.out) ?_; rintro w' ⟨nd, rfl⟩) | ((with_reducible refine gate_callee (f := 47) rfl ?_); refine gM_ 24 Try.func47 (lockgateref01_order.calls kj4 t280 t281 x10_4 false t282 _ A9.out) ?_; rintro w' ⟨nd, rfl⟩) | ((with_reducible refine gate_callee (f := 47) rfl ?_); refine gM_ 28 Try.func47 (lockgateref01_order.calls kj4 t280 t281 x10_4 true t283 _ A10.out) ?_; rintro w' ⟨nd, rfl⟩))
              go_ret2
              exact ⟨by first | rfl | (simp; done) | (simp [*]; done), by repeat (first | exact Drawn0.refl _ | apply Drawn0.step)⟩

end Go.Proofs.Ytnpbhippkcikoaa.PA
