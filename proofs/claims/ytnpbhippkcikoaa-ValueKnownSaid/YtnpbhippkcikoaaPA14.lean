-- PRINTED by print.py (a twelfth state) out of the translation. Not trusted: Lean checks it.
import Derived.Test.YtnpbhippkcikoaaPA0
import Derived.Test.YtnpbhippkcikoaaSq
import Derived.Test.YtnpbhippkcikoaaPA11
import Derived.Test.YtnpbhippkcikoaaPA12
import Derived.Test.YtnpbhippkcikoaaPA13
namespace Go.Proofs.Ytnpbhippkcikoaa.PA
open Go.RowKit Go.Proofs.YtnpbhippkcikoaaW.PrintWords Go.Proofs.YtnpbhippkcikoaaW.PrintLast Go.Proofs.YtnpbhippkcikoaaW.PrintMore
attribute [local go_sem] max2_int min2_int max_two min_two max_three min_three max_four min_four   -- for this text's walks alone
set_option linter.unusedVariables false
set_option linter.unusedSimpArgs false

/-! ### lockgateref01_Alu: function 29 -/
mutual
def lockgateref01_Alu.j0 : Nat → Int → Int → Int → Int → Option (Int × Bool)
 | 0, _, _, _, _ => none
 | k + 1, x0, x2, x3, x10 => (lockgateref01_Low.f x2 x10).bind fun t160 => ((lockgateref01_Low.f x3 x10).bind fun t161 => (if (IntKind.u64.wrap (x10)) = 0 then (none) else (if x0 = 0 then ((lockgateref01_add.f k t160 t161 0).bind fun t162 => ((lockgateref01_Low.f t162 x10).bind fun t163 => (some (t163, true)))) else (if x0 = 1 then ((lockgateref01_not.f k t161).bind fun t164 => ((lockgateref01_add.f k t160 t164 1).bind fun t165 => ((lockgateref01_Low.f t165 x10).bind fun t166 => (some (t166, true))))) else (if x0 = 2 then ((lockgateref01_times.f k t160 t161).bind fun t167 => ((lockgateref01_Low.f t167 x10).bind fun t168 => (some (t168, true)))) else (if x0 = 3 then (lockgateref01_Alu.j1 k x0 t160 t161 x10 (wrap64 (Int.tmod t161 (IntKind.u64.wrap (x10)))) x0 (x0 == 3)) else (lockgateref01_Alu.j1 k x0 t160 t161 x10 (wrap64 (Int.tmod t161 (IntKind.u64.wrap (x10)))) x0 (x0 == 9))))))))
def lockgateref01_Alu.j1 : Nat → Int → Int → Int → Int → Int → Int → Bool → Option (Int × Bool)
 | 0, _, _, _, _, _, _, _ => none
 | k + 1, x0, x2, x3, x10, x11, x28, x45 => if x45 = true then (if x3 > 0 then ((lockgateref01_divide.f k x2 x3).bind fun bt169 => (if x0 = 9 then ((lockgateref01_Low.f bt169.2 x10).bind fun t171 => (some (t171, true))) else ((lockgateref01_Low.f bt169.1 x10).bind fun t172 => (some (t172, true))))) else (if x0 = 9 then ((lockgateref01_Low.f x2 x10).bind fun t173 => (some (t173, true))) else ((lockgateref01_Low.f 0 x10).bind fun t174 => (some (t174, true))))) else (if x28 = 4 then (lockgateref01_Alu.j2 k x0 x2 x3 x10 x11 x28 (x28 == 4)) else (if x28 = 5 then (lockgateref01_Alu.j2 k x0 x2 x3 x10 x11 x28 (x28 == 5)) else (lockgateref01_Alu.j2 k x0 x2 x3 x10 x11 x28 (x28 == 10))))
def lockgateref01_Alu.j2 : Nat → Int → Int → Int → Int → Int → Int → Bool → Option (Int × Bool)
 | 0, _, _, _, _, _, _, _ => none
 | k + 1, x0, x2, x3, x10, x11, x28, x61 => if x61 = true then ((lockgateref01_bits.f k x0 x2 x3).bind fun t175 => ((lockgateref01_Low.f t175 x10).bind fun t176 => (some (t176, true)))) else (if x28 = 6 then (if 0 ≤ (IntKind.u64.wrap (x11)) then ((lockgateref01_Low.f (shl .u64 x2 (IntKind.u64.wrap (x11))) x10).bind fun t177 => (some (t177, true))) else (none)) else (if x28 = 7 then ((lockgateref01_down.f k x2 x11 x10 0).bind fun t178 => ((lockgateref01_Low.f t178 x10).bind fun t179 => (some (t179, true)))) else (if x28 = 8 then ((lockgateref01_not.f k x2).bind fun t180 => ((lockgateref01_add.f k 0 t180 1).bind fun t181 => ((lockgateref01_Low.f t181 x10).bind fun t182 => (some (t182, true))))) else (if x28 = 11 then ((lockgateref01_Low.f x3 x10).bind fun t183 => (some (t183, true))) else (if x28 = 12 then ((lockgateref01_bit.f x2 (wrap64 (x10 - 1))).bind fun t184 => ((lockgateref01_down.f k x2 x11 x10 t184).bind fun t185 => ((lockgateref01_Low.f t185 x10).bind fun t186 => (some (t186, true))))) else (some (0, false)))))))
end
def lockgateref01_Alu.f (k : Nat) (a0 : Int) (a1 : Bool) (a2 : Int) (a3 : Int) : Option (Int × Bool) := if a1 = true then (lockgateref01_Alu.j0 k a0 a2 a3 64) else (lockgateref01_Alu.j0 k a0 a2 a3 32)
theorem lockgateref01_Alu.mono_l : ∀ k, (∀ y0 y1 y2 y3, LeO (lockgateref01_Alu.j0 k y0 y1 y2 y3) (lockgateref01_Alu.j0 (k + 1) y0 y1 y2 y3)) ∧ (∀ y0 y1 y2 y3 y4 y5 y6, LeO (lockgateref01_Alu.j1 k y0 y1 y2 y3 y4 y5 y6) (lockgateref01_Alu.j1 (k + 1) y0 y1 y2 y3 y4 y5 y6)) ∧ (∀ y0 y1 y2 y3 y4 y5 y6, LeO (lockgateref01_Alu.j2 k y0 y1 y2 y3 y4 y5 y6) (lockgateref01_Alu.j2 (k + 1) y0 y1 y2 y3 y4 y5 y6))
 | 0 => ⟨fun _ _ _ _ r h => by simp [lockgateref01_Alu.j0] at h, fun _ _ _ _ _ _ _ r h => by simp [lockgateref01_Alu.j1] at h, fun _ _ _ _ _ _ _ r h => by simp [lockgateref01_Alu.j2] at h⟩
 | k + 1 => by
  obtain ⟨ih0, ih1, ih2⟩ := lockgateref01_Alu.mono_l k
  refine ⟨?_, ?_, ?_⟩
  ·intro y0 y1 y2 y3
   unfold lockgateref01_Alu.j0
   repeat' first
   | (with_reducible exact ih0 _ _ _ _)
   | (with_reducible exact ih1 _ _ _ _ _ _ _)
   | (with_reducible exact ih2 _ _ _ _ _ _ _)
   | (with_reducible exact lockgateref01_add.mono _ _ _ _)
   | (with_reducible exact lockgateref01_bits.mono _ _ _ _)
   | (with_reducible exact lockgateref01_divide.mono _ _ _)
   | (with_reducible exact lockgateref01_down.mono _ _ _ _ _)
   | (with_reducible exact lockgateref01_not.mono _ _)
   | (with_reducible exact lockgateref01_times.mono _ _ _)
   | (with_reducible exact LeO.refl _)
   | (with_reducible exact LeO.none _)
   | (with_reducible refine LeO.ite ?_ ?_)
   | (with_reducible refine LeO.bind ?_ (fun _ => ?_))
   | exact ih0 _ _ _ _
   | exact ih1 _ _ _ _ _ _ _
   | exact ih2 _ _ _ _ _ _ _
   | exact lockgateref01_add.mono _ _ _ _
   | exact lockgateref01_bits.mono _ _ _ _
   | exact lockgateref01_divide.mono _ _ _
   | exact lockgateref01_down.mono _ _ _ _ _
   | exact lockgateref01_not.mono _ _
   | exact lockgateref01_times.mono _ _ _
   | exact LeO.none _
   | refine LeO.ite ?_ ?_
   | refine LeO.bind ?_ (fun _ => ?_)
  ·intro y0 y1 y2 y3 y4 y5 y6
   unfold lockgateref01_Alu.j1
   repeat' first
   | (with_reducible exact ih0 _ _ _ _)
   | (with_reducible exact ih1 _ _ _ _ _ _ _)
   | (with_reducible exact ih2 _ _ _ _ _ _ _)
   | (with_reducible exact lockgateref01_add.mono _ _ _ _)
   | (with_reducible exact lockgateref01_bits.mono _ _ _ _)
   | (with_reducible exact lockgateref01_divide.mono _ _ _)
   | (with_reducible exact lockgateref01_down.mono _ _ _ _ _)
   | (with_reducible exact lockgateref01_not.mono _ _)
   | (with_reducible exact lockgateref01_times.mono _ _ _)
   | (with_reducible exact LeO.refl _)
   | (with_reducible exact LeO.none _)
   | (with_reducible refine LeO.ite ?_ ?_)
   | (with_reducible refine LeO.bind ?_ (fun _ => ?_))
   | exact ih0 _ _ _ _
   | exact ih1 _ _ _ _ _ _ _
   | exact ih2 _ _ _ _ _ _ _
   | exact lockgateref01_add.mono _ _ _ _
   | exact lockgateref01_bits.mono _ _ _ _
   | exact lockgateref01_divide.mono _ _ _
   | exact lockgateref01_down.mono _ _ _ _ _
   | exact lockgateref01_not.mono _ _
   | exact lockgateref01_times.mono _ _ _
   | exact LeO.none _
   | refine LeO.ite ?_ ?_
   | refine LeO.bind ?_ (fun _ => ?_)
  ·intro y0 y1 y2 y3 y4 y5 y6
   unfold lockgateref01_Alu.j2
   repeat' first
   | (with_reducible exact ih0 _ _ _ _)
   | (with_reducible exact ih1 _ _ _ _ _ _ _)
   | (with_reducible exact ih2 _ _ _ _ _ _ _)
   | (with_reducible exact lockgateref01_add.mono _ _ _ _)
   | (with_reducible exact lockgateref01_bits.mono _ _ _ _)
   | (with_reducible exact lockgateref01_divide.mono _ _ _)
   | (with_reducible exact lockgateref01_down.mono _ _ _ _ _)
   | (with_reducible exact lockgateref01_not.mono _ _)
   | (with_reducible exact lockgateref01_times.mono _ _ _)
   | (with_reducible exact LeO.refl _)
   | (with_reducible exact LeO.none _)
   | (with_reducible refine LeO.ite ?_ ?_)
   | (with_reducible refine LeO.bind ?_ (fun _ => ?_))
   | exact ih0 _ _ _ _
   | exact ih1 _ _ _ _ _ _ _
   | exact ih2 _ _ _ _ _ _ _
   | exact lockgateref01_add.mono _ _ _ _
   | exact lockgateref01_bits.mono _ _ _ _
   | exact lockgateref01_divide.mono _ _ _
   | exact lockgateref01_down.mono _ _ _ _ _
   | exact lockgateref01_not.mono _ _
   | exact lockgateref01_times.mono _ _ _
   | exact LeO.none _
   | refine LeO.ite ?_ ?_
   | refine LeO.bind ?_ (fun _ => ?_)
theorem lockgateref01_Alu.mono : ∀ a0 a1 a2 a3 k, LeO (lockgateref01_Alu.f k a0 a1 a2 a3) (lockgateref01_Alu.f (k + 1) a0 a1 a2 a3) := by
 intro a0 a1 a2 a3 k
 obtain ⟨ih0, ih1, ih2⟩ := lockgateref01_Alu.mono_l k
 unfold lockgateref01_Alu.f
 repeat' first
  | (with_reducible exact ih0 _ _ _ _)
  | (with_reducible exact ih1 _ _ _ _ _ _ _)
  | (with_reducible exact ih2 _ _ _ _ _ _ _)
  | (with_reducible exact lockgateref01_add.mono _ _ _ _)
  | (with_reducible exact lockgateref01_bits.mono _ _ _ _)
  | (with_reducible exact lockgateref01_divide.mono _ _ _)
  | (with_reducible exact lockgateref01_down.mono _ _ _ _ _)
  | (with_reducible exact lockgateref01_not.mono _ _)
  | (with_reducible exact lockgateref01_times.mono _ _ _)
  | (with_reducible exact LeO.refl _)
  | (with_reducible exact LeO.none _)
  | (with_reducible refine LeO.ite ?_ ?_)
  | (with_reducible refine LeO.bind ?_ (fun _ => ?_))
  | exact ih0 _ _ _ _
  | exact ih1 _ _ _ _ _ _ _
  | exact ih2 _ _ _ _ _ _ _
  | exact lockgateref01_add.mono _ _ _ _
  | exact lockgateref01_bits.mono _ _ _ _
  | exact lockgateref01_divide.mono _ _ _
  | exact lockgateref01_down.mono _ _ _ _ _
  | exact lockgateref01_not.mono _ _
  | exact lockgateref01_times.mono _ _ _
  | exact LeO.none _
  | refine LeO.ite ?_ ?_
  | refine LeO.bind ?_ (fun _ => ?_)
set_option maxHeartbeats 8000000 in
set_option maxRecDepth 100000 in
theorem lockgateref01_Alu.calls (k : Nat) (a0 : Int) (a1 : Bool) (a2 : Int) (a3 : Int) (r1 : Int) (r2 : Bool) (w : World) (h : lockgateref01_Alu.f k a0 a1 a2 a3 = some (r1, r2)) :
 Calls Try.prog 29 #[.int .i64 a0, .bool a1, .int .u64 a2, .int .u64 a3] w fun e w' => e = .returned (.tuple #[.int .u64 r1, .bool r2]) ∧ Drawn0 w w' := by
 have H : (if a1 = true then (lockgateref01_Alu.j0 k a0 a2 a3 64) else (lockgateref01_Alu.j0 k a0 a2 a3 32)) = some (r1, r2) := h
 clear h
 have HC5 := Aside0.mk H
 clear H
 go_enter Try.func29, Try.ntmps29
 go_upto_if 16 with (fail)
 go_cut [10] (fun v10 wc => ∃ (kq : Nat) (x10_4 : Int), v10 = .int .i64 x10_4 ∧ Aside0 (lockgateref01_Alu.j0 kq a0 a2 a3 x10_4 = some (r1, r2)) ∧ Aside0 (kq ≤ k) ∧ Drawn0 w wc)
 case first =>
  have H := HC5.out
  clear HC5
  by_cases c6 : a1 = true
  ·subst c6
   have H1 : (lockgateref01_Alu.j0 k a0 a2 a3 64) = some (r1, r2) := by rw [if_pos rfl] at H; exact H
   clear H
   have H := H1
   clear H1
   have H' := Aside0.mk H
   clear H
   go_wp2
   go_meet
   case rel => exact ⟨_, (64), (by first | rfl | (simp; done) | (simp [*]; done)), H', ⟨by first | omega | exact Nat.le_refl _⟩, by repeat (first | exact Drawn0.refl _ | apply Drawn0.step)⟩
  ·replace c6 := Bool.eq_false_iff.mpr c6
   subst c6
   have H1 : (lockgateref01_Alu.j0 k a0 a2 a3 32) = some (r1, r2) := by rw [if_neg (show ¬ (false = true) by decide)] at H; exact H
   clear H
   have H := H1
   clear H1
   have H' := Aside0.mk H
   clear H
   go_wp2
   go_meet
   case rel => exact ⟨_, (32), (by first | rfl | (simp; done) | (simp [*]; done)), H', ⟨by first | omega | exact Nat.le_refl _⟩, by repeat (first | exact Drawn0.refl _ | apply Drawn0.step)⟩
 case rest =>
  clear HC5
  try clear c2
  try clear p2
  try clear c6
  obtain ⟨kq, x10_4, rfl, HA, HJ4, ⟨mc4, rfl⟩⟩ := hcut
  cases kq with
  | zero => exact absurd HA.out (by simp [lockgateref01_Alu.j0])
  | succ kj4 =>
   have H := HA.out
   clear HA
   simp only [lockgateref01_Alu.j0] at H
   replace H := Option.bind_eq_some_iff.mp H
   obtain ⟨t160, A70, H⟩ := H
   replace H : ((lockgateref01_Low.f a3 x10_4).bind fun t161 => (if (IntKind.u64.wrap (x10_4)) = 0 then (none) else (if a0 = 0 then ((lockgateref01_add.f kj4 t160 t161 0).bind fun t162 => ((lockgateref01_Low.f t162 x10_4).bind fun t163 => (some (t163, true)))) else (if a0 = 1 then ((lockgateref01_not.f kj4 t161).bind fun t164 => ((lockgateref01_add.f kj4 t160 t164 1).bind fun t165 => ((lockgateref01_Low.f t165 x10_4).bind fun t166 => (some (t166, true))))) else (if a0 = 2 then ((lockgateref01_times.f kj4 t160 t161).bind fun t167 => ((lockgateref01_Low.f t167 x10_4).bind fun t168 => (some (t168, true)))) else (if a0 = 3 then (lockgateref01_Alu.j1 kj4 a0 t160 t161 x10_4 (wrap64 (Int.tmod t161 (IntKind.u64.wrap (x10_4)))) a0 (a0 == 3)) else (lockgateref01_Alu.j1 kj4 a0 t160 t161 x10_4 (wrap64 (Int.tmod t161 (IntKind.u64.wrap (x10_4)))) a0 (a0 == 9)))))))) = some (r1, r2) := H
   have A7 := Aside0.mk A70
   clear A70
   replace H := Option.bind_eq_some_iff.mp H
   obtain ⟨t161, A80, H⟩ := H
   replace H : (if (IntKind.u64.wrap (x10_4)) = 0 then (none) else (if a0 = 0 then ((lockgateref01_add.f kj4 t160 t161 0).bind fun t162 => ((lockgateref01_Low.f t162 x10_4).bind fun t163 => (some (t163, true)))) else (if a0 = 1 then ((lockgateref01_not.f kj4 t161).bind fun t164 => ((lockgateref01_add.f kj4 t160 t164 1).bind fun t165 => ((lockgateref01_Low.f t165 x10_4).bind fun t166 => (some (t166, true))))) else (if a0 = 2 then ((lockgateref01_times.f kj4 t160 t161).bind fun t167 => ((lockgateref01_Low.f t167 x10_4).bind fun t168 => (some (t168, true)))) else (if a0 = 3 then (lockgateref01_Alu.j1 kj4 a0 t160 t161 x10_4 (wrap64 (Int.tmod t161 (IntKind.u64.wrap (x10_4)))) a0 (a0 == 3)) else (lockgateref01_Alu.j1 kj4 a0 t160 t161 x10_4 (wrap64 (Int.tmod t161 (IntKind.u64.wrap (x10_4)))) a0 (a0 == 9))))))) = some (r1, r2) := H
   have A8 := Aside0.mk A80
   clear A80
   by_cases c9 : (IntKind.u64.wrap (x10_4)) = 0
   ·rw [if_pos c9] at H
    exact absurd H (by simp)
   ·rw [if_neg c9] at H
    have c9b0 : ((IntKind.u64.wrap (x10_4)) == 0) = false := beq_eq_false_iff_ne.mpr c9
    have c9b1 : ((IntKind.u64.wrap (x10_4)) != 0) = true := bne_iff_ne.mpr c9
    by_cases c10 : a0 = 0
    ·rw [if_pos c10] at H
     have c10b0 : (a0 == 0) = true := beq_iff_eq.mpr c10
     have c10b1 : (a0 != 0) = false := bne_eq_false_iff_eq.mpr c10
     clear c10
     replace H := Option.bind_eq_some_iff.mp H
     obtain ⟨t162, A110, H⟩ := H
     replace H : ((lockgateref01_Low.f t162 x10_4).bind fun t163 => (some (t163, true))) = some (r1, r2) := H
     have A11 := Aside0.mk A110
     clear A110
     replace H := Option.bind_eq_some_iff.mp H
     obtain ⟨t163, A120, H⟩ := H
     replace H : (some (t163, true)) = some (r1, r2) := H
     have A12 := Aside0.mk A120
     clear A120
     simp only [Option.some.injEq, Prod.mk.injEq] at H
     obtain ⟨rfl, rfl⟩ := H
     go_wp2_with (first | ((with_reducible refine gate_callee (f := 39) rfl ?_); refine gM_ 19 Try.func39 (lockgateref01_Low.calls a2 x10_4 t160 _ A7.out) ?_; rintro w' ⟨nd, rfl⟩) | ((with_reducible refine gate_callee (f := 39) rfl ?_); refine gM_ 22 Try.func39 (lockgateref01_Low.calls a3 x10_4 t161 _ A8.out) ?_; rintro w' ⟨nd, rfl⟩) | ((with_reducible refine gate_callee (f := 40) rfl ?_); refine gM_ 33 Try.func40 (lockgateref01_add.calls kj4 t160 t161 0 t162 _ A11.out) ?_; rintro w' ⟨nd, rfl⟩) | ((with_reducible refine gate_callee (f := 39) rfl ?_); refine gM_ 101 Try.func39 (lockgateref01_Low.calls t162 x10_4 t163 _ A12.out) ?_; rintro w' ⟨nd, rfl⟩))
     go_ret2
     exact ⟨by first | rfl | (simp; done) | (simp [*]; done), by repeat (first | exact Drawn0.refl _ | apply Drawn0.step)⟩
    ·rw [if_neg c10] at H
     have c10b0 : (a0 == 0) = false := beq_eq_false_iff_ne.mpr c10
     have c10b1 : (a0 != 0) = true := bne_iff_ne.mpr c10
     by_cases c13 : a0 = 1
     ·rw [if_pos c13] at H
      have c13b0 : (a0 == 1) = true := beq_iff_eq.mpr c13
      have c13b1 : (a0 != 1) = false := bne_eq_false_iff_eq.mpr c13
      clear c13
      replace H := Option.bind_eq_some_iff.mp H
      obtain ⟨t164, A140, H⟩ := H
      replace H : ((lockgateref01_add.f kj4 t160 t164 1).bind fun t165 => ((lockgateref01_Low.f t165 x10_4).bind fun t166 => (some (t166, true)))) = some (r1, r2) := H
      have A14 := Aside0.mk A140
      clear A140
      replace H := Option.bind_eq_some_iff.mp H
      obtain ⟨t165, A150, H⟩ := H
      replace H : ((lockgateref01_Low.f t165 x10_4).bind fun t166 => (some (t166, true))) = some (r1, r2) := H
      have A15 := Aside0.mk A150
      clear A150
      replace H := Option.bind_eq_some_iff.mp H
      obtain ⟨t166, A160, H⟩ := H
      replace H : (some (t166, true)) = some (r1, r2) := H
      have A16 := Aside0.mk A160
      clear A160
      simp only [Option.some.injEq, Prod.mk.injEq] at H
      obtain ⟨rfl, rfl⟩ := H
      go_wp2_with (first | ((with_reducible refine gate_callee (f := 39) rfl ?_); refine gM_ 19 Try.func39 (lockgateref01_Low.calls a2 x10_4 t160 _ A7.out) ?_; rintro w' ⟨nd, rfl⟩) | ((with_reducible refine gate_callee (f := 39) rfl ?_); refine gM_ 22 Try.func39 (lockgateref01_Low.calls a3 x10_4 t161 _ A8.out) ?_; rintro w' ⟨nd, rfl⟩) | ((with_reducible refine gate_callee (f := 41) rfl ?_); refine gM_ 38 Try.func41 (lockgateref01_not.calls kj4 t161 t164 _ A14.out) ?_; rintro w' ⟨nd, rfl⟩) | ((with_reducible refine gate_callee (f := 40) rfl ?_); refine gM_ 39 Try.func40 (lockgateref01_add.calls kj4 t160 t164 1 t165 _ A15.out) ?_; rintro w' ⟨nd, rfl⟩) | ((with_reducible refine gate_callee (f := 39) rfl ?_); refine gM_ 101 Try.func39 (lockgateref01_Low.calls t165 x10_4 t166 _ A16.out) ?_; rintro w' ⟨nd, rfl⟩))
      go_ret2
      exact ⟨by first | rfl | (simp; done) | (simp [*]; done), by repeat (first | exact Drawn0.refl _ | apply Drawn0.step)⟩
     ·rw [if_neg c13] at H
      have c13b0 : (a0 == 1) = false := beq_eq_false_iff_ne.mpr c13
      have c13b1 : (a0 != 1) = true := bne_iff_ne.mpr c13
      by_cases c17 : a0 = 2
      ·rw [if_pos c17] at H
       have c17b0 : (a0 == 2) = true := beq_iff_eq.mpr c17
       have c17b1 : (a0 != 2) = false := bne_eq_false_iff_eq.mpr c17
       clear c17
       replace H := Option.bind_eq_some_iff.mp H
       obtain ⟨t167, A180, H⟩ := H
       replace H : ((lockgateref01_Low.f t167 x10_4).bind fun t168 => (some (t168, true))) = some (r1, r2) := H
       have A18 := Aside0.mk A180
       clear A180
       replace H := Option.bind_eq_some_iff.mp H
       obtain ⟨t168, A190, H⟩ := H
       replace H : (some (t168, true)) = some (r1, r2) := H
       have A19 := Aside0.mk A190
       clear A190
       simp only [Option.some.injEq, Prod.mk.injEq] at H
       obtain ⟨rfl, rfl⟩ := H
       go_wp2_with (first | ((with_reducible refine gate_callee (f := 39) rfl ?_); refine gM_ 19 Try.func39 (lockgateref01_Low.calls a2 x10_4 t160 _ A7.out) ?_; rintro w' ⟨nd, rfl⟩) | ((with_reducible refine gate_callee (f := 39) rfl ?_); refine gM_ 22 Try.func39 (lockgateref01_Low.calls a3 x10_4 t161 _ A8.out) ?_; rintro w' ⟨nd, rfl⟩) | ((with_reducible refine gate_callee (f := 42) rfl ?_); refine gM_ 44 Try.func42 (lockgateref01_times.calls kj4 t160 t161 t167 _ A18.out) ?_; rintro w' ⟨nd, rfl⟩) | ((with_reducible refine gate_callee (f := 39) rfl ?_); refine gM_ 101 Try.func39 (lockgateref01_Low.calls t167 x10_4 t168 _ A19.out) ?_; rintro w' ⟨nd, rfl⟩))
       go_ret2
       exact ⟨by first | rfl | (simp; done) | (simp [*]; done), by repeat (first | exact Drawn0.refl _ | apply Drawn0.step)⟩
      ·rw [if_neg c17] at H
       have c17b0 : (a0 == 2) = false := beq_eq_false_iff_ne.mpr c17
       have c17b1 : (a0 != 2) = true := bne_iff_ne.mpr c17
       have HC20 := Aside0.mk H
       clear H
       go_upto_if 45 with (first | ((with_reducible refine gate_callee (f := 39) rfl ?_); refine gM_ 19 Try.func39 (lockgateref01_Low.calls a2 x10_4 t160 _ A7.out) ?_; rintro w' ⟨nd, rfl⟩) | ((with_reducible refine gate_callee (f := 39) rfl ?_); refine gM_ 22 Try.func39 (lockgateref01_Low.calls a3 x10_4 t161 _ A8.out) ?_; rintro w' ⟨nd, rfl⟩))
       (try simp only [Act.put, s1_, s2_, s3_])
       go_cut [45] (fun v45 wc => ∃ (kq : Nat) (x45_19 : Bool), v45 = .bool x45_19 ∧ Aside0 (lockgateref01_Alu.j1 kq a0 t160 t161 x10_4 (wrap64 (Int.tmod t161 (IntKind.u64.wrap (x10_4)))) a0 x45_19 = some (r1, r2)) ∧ Aside0 (kq ≤ kj4) ∧ Drawn0 w wc)
       case first =>
        have H := HC20.out
        clear HC20
        by_cases c21 : a0 = 3
        ·rw [if_pos c21] at H
         have c21b0 : (a0 == 3) = true := beq_iff_eq.mpr c21
         have c21b1 : (a0 != 3) = false := bne_eq_false_iff_eq.mpr c21
         clear c21
         (first | rw [c21b0] | (simp only [i64_w, i32_w]; rw [c21b0]) | skip)
         have H' := Aside0.mk H
         clear H
         go_wp2
         go_meet
         case rel => exact ⟨_, ((a0 == 3)), (by first | rfl | (simp; done) | (simp [*]; done)), H', ⟨by have := HJ4.out; first | omega | exact Nat.le_refl _⟩, by repeat (first | exact Drawn0.refl _ | apply Drawn0.step)⟩
        ·rw [if_neg c21] at H
         have c21b0 : (a0 == 3) = false := beq_eq_false_iff_ne.mpr c21
         have c21b1 : (a0 != 3) = true := bne_iff_ne.mpr c21
         (first | rw [c21b0] | (simp only [i64_w, i32_w]; rw [c21b0]) | skip)
         have H' := Aside0.mk H
         clear H
         go_wp2
         go_meet
         case rel => exact ⟨_, ((a0 == 9)), (by first | rfl | (simp; done) | (simp [*]; done)), H', ⟨by have := HJ4.out; first | omega | exact Nat.le_refl _⟩, by repeat (first | exact Drawn0.refl _ | apply Drawn0.step)⟩
       case rest =>
        clear HC20
        try clear c1
        try clear c2
        try clear p2
        try clear c3
        try clear c4
        try clear c6
        try clear p6
        try clear c9
        try clear c9b0
        try clear c9b1
        try clear c10
        try clear c10b0
        try clear c10b1
        try clear c13
        try clear c13b0
        try clear c13b1
        try clear c17
        try clear c17b0
        try clear c17b1
        try clear c21
        try clear c21b0
        try clear c21b1
        try clear p2
        obtain ⟨kq, x45_19, rfl, HA, HJ19, ⟨mc19, rfl⟩⟩ := hcut
        cases kq with
        | zero => exact absurd HA.out (by simp [lockgateref01_Alu.j1])
        | succ kj19 =>
         have H := HA.out
         clear HA
         simp only [lockgateref01_Alu.j1] at H
         by_cases c22 : x45_19 = true
         ·subst c22
          have H1 : (if t161 > 0 then ((lockgateref01_divide.f kj19 t160 t161).bind fun bt169 => (if a0 = 9 then ((lockgateref01_Low.f bt169.2 x10_4).bind fun t171 => (some (t171, true))) else ((lockgateref01_Low.f bt169.1 x10_4).bind fun t172 => (some (t172, true))))) else (if a0 = 9 then ((lockgateref01_Low.f t160 x10_4).bind fun t173 => (some (t173, true))) else ((lockgateref01_Low.f 0 x10_4).bind fun t174 => (some (t174, true))))) = some (r1, r2) := by rw [if_pos rfl] at H; exact H
          clear H
          have H := H1
          clear H1
          by_cases c23 : t161 > 0
          ·rw [if_pos c23] at H
           have c23b0 : decide (0 < t161) = true := decide_eq_true c23
           clear c23
           replace H := Option.bind_eq_some_iff.mp H
           obtain ⟨⟨t169, t170⟩, A240, H⟩ := H
           replace H : (if a0 = 9 then ((lockgateref01_Low.f t170 x10_4).bind fun t171 => (some (t171, true))) else ((lockgateref01_Low.f t169 x10_4).bind fun t172 => (some (t172, true)))) = some (r1, r2) := H
           have A24 := Aside0.mk A240
           clear A240
           by_cases c25 : a0 = 9
           ·rw [if_pos c25] at H
            have c25b0 : (a0 == 9) = true := beq_iff_eq.mpr c25
            have c25b1 : (a0 != 9) = false := bne_eq_false_iff_eq.mpr c25
            clear c25
            replace H := Option.bind_eq_some_iff.mp H
            obtain ⟨t171, A260, H⟩ := H
            replace H : (some (t171, true)) = some (r1, r2) := H
            have A26 := Aside0.mk A260
            clear A260
            simp only [Option.some.injEq, Prod.mk.injEq] at H
            obtain ⟨rfl, rfl⟩ := H
            go_wp2_with (first | ((with_reducible refine gate_callee (f := 43) rfl ?_); refine gM_ 54 Try.func43 (lockgateref01_divide.calls kj19 t160 t161 t169 t170 _ A24.out) ?_; rintro w' ⟨nd, rfl⟩) | ((with_reducible refine gate_callee (f := 39) rfl ?_); refine gM_ 101 Try.func39 (lockgateref01_Low.calls t170 x10_4 t171 _ A26.out) ?_; rintro w' ⟨nd, rfl⟩))
            go_ret2
            exact ⟨by first | rfl | (simp; done) | (simp [*]; done), by repeat (first | exact Drawn0.refl _ | apply Drawn0.step)⟩
           ·rw [if_neg c25] at H
            have c25b0 : (a0 == 9) = false := beq_eq_false_iff_ne.mpr c25
            have c25b1 : (a0 != 9) = true := bne_iff_ne.mpr c25
            replace H := Option.bind_eq_some_iff.mp H
            obtain ⟨t172, A270, H⟩ := H
            replace H : (some (t172, true)) = some (r1, r2) := H
            have A27 := Aside0.mk A270
            clear A270
            simp only [Option.some.injEq, Prod.mk.injEq] at H
            obtain ⟨rfl, rfl⟩ := H
            go_wp2_with (first | ((with_reducible refine gate_callee (f := 43) rfl ?_); refine gM_ 54 Try.func43 (lockgateref01_divide.calls kj19 t160 t161 t169 t170 _ A24.out) ?_; rintro w' ⟨nd, rfl⟩) | ((with_reducible refine gate_callee (f := 39) rfl ?_); refine gM_ 101 Try.func39 (lockgateref01_Low.calls t169 x10_4 t172 _ A27.out) ?_; rintro w' ⟨nd, rfl⟩))
            go_ret2
            exact ⟨by first | rfl | (simp; done) | (simp [*]; done), by repeat (first | exact Drawn0.refl _ | apply Drawn0.step)⟩
          ·rw [if_neg c23] at H
           have c23b0 : decide (0 < t161) = false := decide_eq_false c23
           clear c23
           by_cases c28 : a0 = 9
           ·rw [if_pos c28] at H
            have c28b0 : (a0 == 9) = true := beq_iff_eq.mpr c28
            have c28b1 : (a0 != 9) = false := bne_eq_false_iff_eq.mpr c28
            clear c28
            replace H := Option.bind_eq_some_iff.mp H
            obtain ⟨t173, A290, H⟩ := H
            replace H : (some (t173, true)) = some (r1, r2) := H
            have A29 := Aside0.mk A290
            clear A290
            simp only [Option.some.injEq, Prod.mk.injEq] at H
            obtain ⟨rfl, rfl⟩ := H
            go_wp2_with (first | ((with_reducible refine gate_callee (f := 39) rfl ?_); refine gM_ 101 Try.func39 (lockgateref01_Low.calls t160 x10_4 t173 _ A29.out) ?_; rintro w' ⟨nd, rfl⟩))
            go_ret2
            exact ⟨by first | rfl | (simp; done) | (simp [*]; done), by repeat (first | exact Drawn0.refl _ | apply Drawn0.step)⟩
           ·rw [if_neg c28] at H
            have c28b0 : (a0 == 9) = false := beq_eq_false_iff_ne.mpr c28
            have c28b1 : (a0 != 9) = true := bne_iff_ne.mpr c28
            replace H := Option.bind_eq_some_iff.mp H
            obtain ⟨t174, A300, H⟩ := H
            replace H : (some (t174, true)) = some (r1, r2) := H
            have A30 := Aside0.mk A300
            clear A300
            simp only [Option.some.injEq, Prod.mk.injEq] at H
            obtain ⟨rfl, rfl⟩ := H
            go_wp2_with (first | ((with_reducible refine gate_callee (f := 39) rfl ?_); refine gM_ 101 Try.func39 (lockgateref01_Low.calls 0 x10_4 t174 _ A30.out) ?_; rintro w' ⟨nd, rfl⟩))
            go_ret2
            exact ⟨by first | rfl | (simp; done) | (simp [*]; done), by repeat (first | exact Drawn0.refl _ | apply Drawn0.step)⟩
         ·replace c22 := Bool.eq_false_iff.mpr c22
          subst c22
          have H1 : (if a0 = 4 then (lockgateref01_Alu.j2 kj19 a0 t160 t161 x10_4 (wrap64 (Int.tmod t161 (IntKind.u64.wrap (x10_4)))) a0 (a0 == 4)) else (if a0 = 5 then (lockgateref01_Alu.j2 kj19 a0 t160 t161 x10_4 (wrap64 (Int.tmod t161 (IntKind.u64.wrap (x10_4)))) a0 (a0 == 5)) else (lockgateref01_Alu.j2 kj19 a0 t160 t161 x10_4 (wrap64 (Int.tmod t161 (IntKind.u64.wrap (x10_4)))) a0 (a0 == 10)))) = some (r1, r2) := by rw [if_neg (show ¬ (false = true) by decide)] at H; exact H
          clear H
          have H := H1
          clear H1
          have HC31 := Aside0.mk H
          clear H
          go_upto_if 61 with (fail)
          go_cut [61] (fun v61 wc => ∃ (kq : Nat) (x61_30 : Bool), v61 = .bool x61_30 ∧ Aside0 (lockgateref01_Alu.j2 kq a0 t160 t161 x10_4 (wrap64 (Int.tmod t161 (IntKind.u64.wrap (x10_4)))) a0 x61_30 = some (r1, r2)) ∧ Aside0 (kq ≤ kj19) ∧ Drawn0 w wc)
          case first =>
           have H := HC31.out
           clear HC31
           by_cases c32 : a0 = 4
           ·rw [if_pos c32] at H
            have c32b0 : (a0 == 4) = true := beq_iff_eq.mpr c32
            have c32b1 : (a0 != 4) = false := bne_eq_false_iff_eq.mpr c32
            clear c32
            (first | rw [c32b0] | (simp only [i64_w, i32_w]; rw [c32b0]) | skip)
            have H' := Aside0.mk H
            clear H
            go_wp2
            go_meet
            case rel => exact ⟨_, ((a0 == 4)), (by first | rfl | (simp; done) | (simp [*]; done)), H', ⟨by have := HJ4.out; have := HJ19.out; first | omega | exact Nat.le_refl _⟩, by repeat (first | exact Drawn0.refl _ | apply Drawn0.step)⟩
           ·rw [if_neg c32] at H
            have c32b0 : (a0 == 4) = false := beq_eq_false_iff_ne.mpr c32
            have c32b1 : (a0 != 4) = true := bne_iff_ne.mpr c32
            (first | rw [c32b0] | (simp only [i64_w, i32_w]; rw [c32b0]) | skip)
            by_cases c33 : a0 = 5
            ·rw [if_pos c33] at H
             have c33b0 : (a0 == 5) = true := beq_iff_eq.mpr c33
             have c33b1 : (a0 != 5) = false := bne_eq_false_iff_eq.mpr c33
             clear c33
             have H' := Aside0.mk H
             clear H
             go_wp2
             go_meet
             case rel => exact ⟨_, ((a0 == 5)), (by first | rfl | (simp; done) | (simp [*]; done)), H', ⟨by have := HJ4.out; have := HJ19.out; first | omega | exact Nat.le_refl _⟩, by repeat (first | exact Drawn0.refl _ | apply Drawn0.step)⟩
            ·rw [if_neg c33] at H
             have c33b0 : (a0 == 5) = false := beq_eq_false_iff_ne.mpr c33
             have c33b1 : (a0 != 5) = true := bne_iff_ne.mpr c33
             have H' := Aside0.mk H
             clear H
             go_wp2
             go_meet
             case rel => exact ⟨_, ((a0 == 10)), (by first | rfl | (simp; done) | (simp [*]; done)), H', ⟨by have := HJ4.out; have := HJ19.out; first | omega | exact Nat.le_refl _⟩, by repeat (first | exact Drawn0.refl _ | apply Drawn0.step)⟩
          case rest =>
           clear HC31
           try clear c1
           try clear c2
           try clear p2
           try clear c3
           try clear c4
           try clear c6
           try clear p6
           try clear c9
           try clear c9b0
           try clear c9b1
           try clear c10
           try clear c10b0
           try clear c10b1
           try clear c13
           try clear c13b0
           try clear c13b1
           try clear c17
           try clear c17b0
           try clear c17b1
           try clear c19
           try clear c21
           try clear c21b0
           try clear c21b1
           try clear c22
           try clear c23
           try clear c23b0
           try clear c25
           try clear c25b0
           try clear c25b1
           try clear c28
           try clear c28b0
           try clear c28b1
           try clear c29
           try clear c32
           try clear c32b0
           try clear c32b1
           try clear c33
           try clear c33b0
           try clear c33b1
           try clear p2
           try clear p6
           obtain ⟨kq, x61_30, rfl, HA, HJ30, ⟨mc30, rfl⟩⟩ := hcut
           cases kq with
           | zero => exact absurd HA.out (by simp [lockgateref01_Alu.j2])
           | succ kj30 =>
            have H := HA.out
            clear HA
            simp only [lockgateref01_Alu.j2] at H
            by_cases c34 : x61_30 = true
            ·subst c34
             have H1 : ((lockgateref01_bits.f kj30 a0 t160 t161).bind fun t175 => ((lockgateref01_Low.f t175 x10_4).bind fun t176 => (some (t176, true)))) = some (r1, r2) := by rw [if_pos rfl] at H; exact H
             clear H
             have H := H1
             clear H1
             replace H := Option.bind_eq_some_iff.mp H
             obtain ⟨t175, A350, H⟩ := H
             replace H : ((lockgateref01_Low.f t175 x10_4).bind fun t176 => (some (t176, true))) = some (r1, r2) := H
             have A35 := Aside0.mk A350
             clear A350
             replace H := Option.bind_eq_some_iff.mp H
             obtain ⟨t176, A360, H⟩ := H
             replace H : (some (t176, true)) = some (r1, r2) := H
             have A36 := Aside0.mk A360
             clear A360
             simp only [Option.some.injEq, Prod.mk.injEq] at H
             obtain ⟨rfl, rfl⟩ := H
             go_wp2_with (first | ((with_reducible refine gate_callee (f := 44) rfl ?_); refine gM_ 68 Try.func44 (lockgateref01_bits.calls kj30 a0 t160 t161 t175 _ A35.out) ?_; rintro w' ⟨nd, rfl⟩) | ((with_reducible refine gate_callee (f := 39) rfl ?_); refine gM_ 101 Try.func39 (lockgateref01_Low.calls t175 x10_4 t176 _ A36.out) ?_; rintro w' ⟨nd, rfl⟩))
             go_ret2
             exact ⟨by first | rfl | (simp; done) | (simp [*]; done), by repeat (first | exact Drawn0.refl _ | apply Drawn0.step)⟩
            ·replace c34 := Bool.eq_false_iff.mpr c34
             subst c34
             have H1 : (if a0 = 6 then (if 0 ≤ (IntKind.u64.wrap ((wrap64 (Int.tmod t161 (IntKind.u64.wrap (x10_4)))))) then ((lockgateref01_Low.f (shl .u64 t160 (IntKind.u64.wrap ((wrap64 (Int.tmod t161 (IntKind.u64.wrap (x10_4))))))) x10_4).bind fun t177 => (some (t177, true))) else (none)) else (if a0 = 7 then ((lockgateref01_down.f kj30 t160 (wrap64 (Int.tmod t161 (IntKind.u64.wrap (x10_4)))) x10_4 0).bind fun t178 => ((lockgateref01_Low.f t178 x10_4).bind fun t179 => (some (t179, true)))) else (if a0 = 8 then ((lockgateref01_not.f kj30 t160).bind fun t180 => ((lockgateref01_add.f kj30 0 t180 1).bind fun t181 => ((lockgateref01_Low.f t181 x10_4).bind fun t182 => (some (t182, true))))) else (if a0 = 11 then ((lockgateref01_Low.f t161 x10_4).bind fun t183 => (some (t183, true))) else (if a0 = 12 then ((lockgateref01_bit.f t160 (wrap64 (x10_4 - 1))).bind fun t184 => ((lockgateref01_down.f kj30 t160 (wrap64 (Int.tmod t161 (IntKind.u64.wrap (x10_4)))) x10_4 t184).bind fun t185 => ((lockgateref01_Low.f t185 x10_4).bind fun t186 => (some (t186, true))))) else (some (0, false))))))) = some (r1, r2) := by rw [if_neg (show ¬ (false = true) by decide)] at H; exact H
             clear H
             have H := H1
             clear H1
             by_cases c37 : a0 = 6
             ·rw [if_pos c37] at H
              have c37b0 : (a0 == 6) = true := beq_iff_eq.mpr c37
              have c37b1 : (a0 != 6) = false := bne_eq_false_iff_eq.mpr c37
              clear c37
              obtain ⟨ji38, hji38⟩ : ∃ j_ : Int, (IntKind.u64.wrap ((wrap64 (Int.tmod t161 (IntKind.u64.wrap (x10_4)))))) = j_ := ⟨_, rfl⟩
              replace H : (if 0 ≤ (ji38) then ((lockgateref01_Low.f (shl .u64 t160 (ji38)) x10_4).bind fun t177 => (some (t177, true))) else (none)) = some (r1, r2) := by first | (rw [hji38] at H; exact H) | (simp only [hji38] at H ⊢; exact H)
              by_cases c39 : 0 ≤ (ji38)
              ·rw [if_pos c39] at H
               have c39b0 := eq_true c39
               have c39b1 : decide (0 ≤ (ji38)) = true := decide_eq_true c39
               clear c39
               obtain ⟨ji40, hji40⟩ : ∃ j_ : Int, (shl .u64 t160 (ji38)) = j_ := ⟨_, rfl⟩
               replace H : ((lockgateref01_Low.f (ji40) x10_4).bind fun t177 => (some (t177, true))) = some (r1, r2) := by first | (rw [hji40] at H; exact H) | (simp only [hji40] at H ⊢; exact H)
               have hji40_ : (IntKind.u64.wrap (t160 * 2 ^ min (ji38).toNat 64)) = ji40 := hji40
               have hji40z : (ji38) ≤ 64 → (IntKind.u64.wrap (t160 * 2 ^ (ji38).toNat)) = ji40 := shl_small hji40
               replace H := Option.bind_eq_some_iff.mp H
               obtain ⟨t177, A410, H⟩ := H
               replace H : (some (t177, true)) = some (r1, r2) := H
               have A41 := Aside0.mk A410
               clear A410
               simp only [Option.some.injEq, Prod.mk.injEq] at H
               obtain ⟨rfl, rfl⟩ := H
               go_wp2_with (first | ((with_reducible refine gate_callee (f := 39) rfl ?_); refine goesL_ (some 101) rfl rfl Try.func39 (by kernel_rfl) rfl #[.int .u64 ji40, .int .i64 x10_4] rfl (by (try simp only [List.map_toArray, List.map_cons, List.map_nil]); first | done | (simp only [hji40]; rfl) | rfl | (simp only [List.length_drop, List.length_take]; rfl)) ?_; (with_reducible refine (lockgateref01_Low.calls ji40 x10_4 t177 _ A41.out).mono ?_); rintro e w' ⟨rfl, ⟨nd, rfl⟩⟩; refine ⟨_, rfl, ?_⟩))
               go_ret2
               exact ⟨by first | rfl | (simp; done) | (simp only [← hji38, ← hji40] <;> (first | rfl | simp)) | (simp [*]; done), by repeat (first | exact Drawn0.refl _ | apply Drawn0.step)⟩
              ·rw [if_neg c39] at H
               exact absurd H (by simp)
             ·rw [if_neg c37] at H
              have c37b0 : (a0 == 6) = false := beq_eq_false_iff_ne.mpr c37
              have c37b1 : (a0 != 6) = true := bne_iff_ne.mpr c37
              by_cases c42 : a0 = 7
              ·rw [if_pos c42] at H
               have c42b0 : (a0 == 7) = true := beq_iff_eq.mpr c42
               have c42b1 : (a0 != 7) = false := bne_eq_false_iff_eq.mpr c42
               clear c42
               replace H := Option.bind_eq_some_iff.mp H
               obtain ⟨t178, A430, H⟩ := H
               replace H : ((lockgateref01_Low.f t178 x10_4).bind fun t179 => (some (t179, true))) = some (r1, r2) := H
               have A43 := Aside0.mk A430
               clear A430
               replace H := Option.bind_eq_some_iff.mp H
               obtain ⟨t179, A440, H⟩ := H
               replace H : (some (t179, true)) = some (r1, r2) := H
               have A44 := Aside0.mk A440
               clear A440
               simp only [Option.some.injEq, Prod.mk.injEq] at H
               obtain ⟨rfl, rfl⟩ := H
               go_wp2_with (first | ((with_reducible refine gate_callee (f := 45) rfl ?_); refine goesL_ (some 80) rfl rfl Try.func45 (by kernel_rfl) rfl #[.int .u64 t160, .int .i64 (wrap64 (Int.tmod t161 (IntKind.u64.wrap (x10_4)))), .int .i64 x10_4, .int .u64 0] rfl mp_ ?_; (with_reducible refine (lockgateref01_down.calls kj30 t160 (wrap64 (Int.tmod t161 (IntKind.u64.wrap (x10_4)))) x10_4 0 t178 _ A43.out).mono ?_); rintro e w' ⟨rfl, ⟨nd, rfl⟩⟩; refine ⟨_, rfl, ?_⟩) | ((with_reducible refine gate_callee (f := 39) rfl ?_); refine gM_ 101 Try.func39 (lockgateref01_Low.calls t178 x10_4 t179 _ A44.out) ?_; rintro w' ⟨nd, rfl⟩))
               go_ret2
               exact ⟨by first | rfl | (simp; done) | (simp [*]; done), by repeat (first | exact Drawn0.refl _ | apply Drawn0.step)⟩
              ·rw [if_neg c42] at H
               have c42b0 : (a0 == 7) = false := beq_eq_false_iff_ne.mpr c42
               have c42b1 : (a0 != 7) = true := bne_iff_ne.mpr c42
               by_cases c45 : a0 = 8
               ·rw [if_pos c45] at H
                have c45b0 : (a0 == 8) = true := beq_iff_eq.mpr c45
                have c45b1 : (a0 != 8) = false := bne_eq_false_iff_eq.mpr c45
                clear c45
                replace H := Option.bind_eq_some_iff.mp H
                obtain ⟨t180, A460, H⟩ := H
                replace H : ((lockgateref01_add.f kj30 0 t180 1).bind fun t181 => ((lockgateref01_Low.f t181 x10_4).bind fun t182 => (some (t182, true)))) = some (r1, r2) := H
                have A46 := Aside0.mk A460
                clear A460
                replace H := Option.bind_eq_some_iff.mp H
                obtain ⟨t181, A470, H⟩ := H
                replace H : ((lockgateref01_Low.f t181 x10_4).bind fun t182 => (some (t182, true))) = some (r1, r2) := H
                have A47 := Aside0.mk A470
                clear A470
                replace H := Option.bind_eq_some_iff.mp H
                obtain ⟨t182, A480, H⟩ := H
                replace H : (some (t182, true)) = some (r1, r2) := H
                have A48 := Aside0.mk A480
                clear A480
                simp only [Option.some.injEq, Prod.mk.injEq] at H
                obtain ⟨rfl, rfl⟩ := H
                go_wp2_with (first | ((with_reducible refine gate_callee (f := 41) rfl ?_); refine gM_ 84 Try.func41 (lockgateref01_not.calls kj30 t160 t180 _ A46.out) ?_; rintro w' ⟨nd, rfl⟩) | ((with_reducible refine gate_callee (f := 40) rfl ?_); refine gM_ 85 Try.func40 (lockgateref01_add.calls kj30 0 t180 1 t181 _ A47.out) ?_; rintro w' ⟨nd, rfl⟩) | ((with_reducible refine gate_callee (f := 39) rfl ?_); refine gM_ 101 Try.func39 (lockgateref01_Low.calls t181 x10_4 t182 _ A48.out) ?_; rintro w' ⟨nd, rfl⟩))
                go_ret2
                exact ⟨by first | rfl | (simp; done) | (simp [*]; done), by repeat (first | exact Drawn0.refl _ | apply Drawn0.step)⟩
               ·rw [if_neg c45] at H
                have c45b0 : (a0 == 8) = false := beq_eq_false_iff_ne.mpr c45
                have c45b1 : (a0 != 8) = true := bne_iff_ne.mpr c45
                by_cases c49 : a0 = 11
                ·rw [if_pos c49] at H
                 have c49b0 : (a0 == 11) = true := beq_iff_eq.mpr c49
                 have c49b1 : (a0 != 11) = false := bne_eq_false_iff_eq.mpr c49
                 clear c49
                 replace H := Option.bind_eq_some_iff.mp H
                 obtain ⟨t183, A500, H⟩ := H
                 replace H : (some (t183, true)) = some (r1, r2) := H
                 have A50 := Aside0.mk A500
                 clear A500
                 simp only [Option.some.injEq, Prod.mk.injEq] at H
                 obtain ⟨rfl, rfl⟩ := H
                 go_wp2_with (first | ((with_reducible refine gate_callee (f := 39) rfl ?_); refine gM_ 101 Try.func39 (lockgateref01_Low.calls t161 x10_4 t183 _ A50.out) ?_; rintro w' ⟨nd, rfl⟩))
                 go_ret2
                 exact ⟨by first | rfl | (simp; done) | (simp [*]; done), by repeat (first | exact Drawn0.refl _ | apply Drawn0.step)⟩
                ·rw [if_neg c49] at H
                 have c49b0 : (a0 == 11) = false := beq_eq_false_iff_ne.mpr c49
                 have c49b1 : (a0 != 11) = true := bne_iff_ne.mpr c49
                 by_cases c51 : a0 = 12
                 ·rw [if_pos c51] at H
                  have c51b0 : (a0 == 12) = true := beq_iff_eq.mpr c51
                  have c51b1 : (a0 != 12) = false := bne_eq_false_iff_eq.mpr c51
                  clear c51
                  replace H := Option.bind_eq_some_iff.mp H
                  obtain ⟨t184, A520, H⟩ := H
                  replace H : ((lockgateref01_down.f kj30 t160 (wrap64 (Int.tmod t161 (IntKind.u64.wrap (x10_4)))) x10_4 t184).bind fun t185 => ((lockgateref01_Low.f t185 x10_4).bind fun t186 => (some (t186, true)))) = some (r1, r2) := H
                  have A52 := Aside0.mk A520
                  clear A520
                  replace H := Option.bind_eq_some_iff.mp H
                  obtain ⟨t185, A530, H⟩ := H
                  replace H : ((lockgateref01_Low.f t185 x10_4).bind fun t186 => (some (t186, true))) = some (r1, r2) := H
                  have A53 := Aside0.mk A530
                  clear A530
                  replace H := Option.bind_eq_some_iff.mp H
                  obtain ⟨t186, A540, H⟩ := H
                  replace H : (some (t186, true)) = some (r1, r2) := H
                  have A54 := Aside0.mk A540
                  clear A540
                  simp only [Option.some.injEq, Prod.mk.injEq] at H
                  obtain ⟨rfl, rfl⟩ := H
                  go_wp2_with (first | ((with_reducible refine gate_callee (f := 46) rfl ?_); refine gM_ 97 Try.func46 (lockgateref01_bit.calls t160 (wrap64 (x10_4 - 1)) t184 _ A52.out) ?_; rintro w' ⟨nd, rfl⟩) | ((with_reducible refine gate_callee (f := 45) rfl ?_); refine goesL_ (some 98) rfl rfl Try.func45 (by kernel_rfl) rfl #[.int .u64 t160, .int .i64 (wrap64 (Int.tmod t161 (IntKind.u64.wrap (x10_4)))), .int .i64 x10_4, .int .u64 t184] rfl mp_ ?_; (with_reducible refine (lockgateref01_down.calls kj30 t160 (wrap64 (Int.tmod t161 (IntKind.u64.wrap (x10_4)))) x10_4 t184 t185 _ A53.out).mono ?_); rintro e w' ⟨rfl, ⟨nd, rfl⟩⟩; refine ⟨_, rfl, ?_⟩) | ((with_reducible refine gate_callee (f := 39) rfl ?_); refine gM_ 101 Try.func39 (lockgateref01_Low.calls t185 x10_4 t186 _ A54.out) ?_; rintro w' ⟨nd, rfl⟩))
                  go_ret2
                  exact ⟨by first | rfl | (simp; done) | (simp [*]; done), by repeat (first | exact Drawn0.refl _ | apply Drawn0.step)⟩
                 ·rw [if_neg c51] at H
                  have c51b0 : (a0 == 12) = false := beq_eq_false_iff_ne.mpr c51
                  have c51b1 : (a0 != 12) = true := bne_iff_ne.mpr c51
                  simp only [Option.some.injEq, Prod.mk.injEq] at H
                  obtain ⟨rfl, rfl⟩ := H
                  go_wp2
                  go_ret2
                  exact ⟨by first | rfl | (simp; done) | (simp [*]; done), by repeat (first | exact Drawn0.refl _ | apply Drawn0.step)⟩

end Go.Proofs.Ytnpbhippkcikoaa.PA
