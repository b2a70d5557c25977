-- PRINTED by print.py (a twelfth state) out of the translation. Not trusted: Lean checks it.
import Derived.Test.YtceclodenhgoeaaGreatWTab
import Derived.Test.YtceclodenhgoeaaGreatPA0
import Derived.Test.YtceclodenhgoeaaGreatSq
namespace Go.Proofs.YtceclodenhgoeaaGreat.PA
open Go.RowKit Go.Proofs.YtceclodenhgoeaaGreatW.PrintWords Go.Proofs.YtceclodenhgoeaaGreatW.PrintLast Go.Proofs.YtceclodenhgoeaaGreatW.PrintMore
attribute [local go_sem] max2_int min2_int max_two min_two max_three min_three max_four min_four   -- for this text's walks alone
set_option linter.unusedVariables false
set_option linter.unusedSimpArgs false

/-! ### word_pure_uint64: function 90 -/
def word_pure_uint64.f (a0 : Int) (a1 : Int) (a2 : Int) (a3 : Int) : Option (Int × Bool) := if a0 = 0 then (some (IntKind.u64.wrap (a1 + a2), true)) else (if a0 = 1 then (some (IntKind.u64.wrap (a1 - a2), true)) else (if a0 = 2 then (some (IntKind.u64.wrap (a1 * a2), true)) else (if a0 = 3 then (if a2 = 0 then (some (0, true)) else (some (IntKind.u64.wrap (Int.tdiv a1 a2), true))) else (if a0 = 9 then (if a2 = 0 then (some (a1, true)) else (some (Int.tmod a1 a2, true))) else (if a0 = 4 then (some (Go.bits .or .u64 a1 a2, true)) else (if a0 = 5 then (some (Go.bits .and .u64 a1 a2, true)) else (if a0 = 10 then (some (Go.bits .xor .u64 a1 a2, true)) else (if a0 = 6 then (if a3 = 0 then (none) else (if 0 ≤ (Int.tmod a2 a3) then (some (shl .u64 a1 (Int.tmod a2 a3), true)) else (none))) else (if a0 = 7 then (if a3 = 0 then (none) else (if 0 ≤ (Int.tmod a2 a3) then (some (shr .u64 a1 (Int.tmod a2 a3), true)) else (none))) else (if a0 = 8 then (some (IntKind.u64.wrap (-a1), true)) else (if a0 = 11 then (some (a2, true)) else (some (0, false)))))))))))))
set_option maxHeartbeats 8000000 in
set_option maxRecDepth 100000 in
theorem word_pure_uint64.calls (a0 : Int) (a1 : Int) (a2 : Int) (a3 : Int) (r1 : Int) (r2 : Bool) (w : World) (h : word_pure_uint64.f a0 a1 a2 a3 = some (r1, r2)) :
 Calls Tryz.prog 90 #[.int .i64 a0, .int .u64 a1, .int .u64 a2, .int .u64 a3] w fun e w' => e = .returned (.tuple #[.int .u64 r1, .bool r2]) ∧ Drawn0 w w' := by
 have H : (if a0 = 0 then (some (IntKind.u64.wrap (a1 + a2), true)) else (if a0 = 1 then (some (IntKind.u64.wrap (a1 - a2), true)) else (if a0 = 2 then (some (IntKind.u64.wrap (a1 * a2), true)) else (if a0 = 3 then (if a2 = 0 then (some (0, true)) else (some (IntKind.u64.wrap (Int.tdiv a1 a2), true))) else (if a0 = 9 then (if a2 = 0 then (some (a1, true)) else (some (Int.tmod a1 a2, true))) else (if a0 = 4 then (some (Go.bits .or .u64 a1 a2, true)) else (if a0 = 5 then (some (Go.bits .and .u64 a1 a2, true)) else (if a0 = 10 then (some (Go.bits .xor .u64 a1 a2, true)) else (if a0 = 6 then (if a3 = 0 then (none) else (if 0 ≤ (Int.tmod a2 a3) then (some (shl .u64 a1 (Int.tmod a2 a3), true)) else (none))) else (if a0 = 7 then (if a3 = 0 then (none) else (if 0 ≤ (Int.tmod a2 a3) then (some (shr .u64 a1 (Int.tmod a2 a3), true)) else (none))) else (if a0 = 8 then (some (IntKind.u64.wrap (-a1), true)) else (if a0 = 11 then (some (a2, true)) else (some (0, false)))))))))))))) = some (r1, r2) := h
 clear h
 by_cases c5 : a0 = 0
 ·rw [if_pos c5] at H
  have c5b0 : (a0 == 0) = true := beq_iff_eq.mpr c5
  have c5b1 : (a0 != 0) = false := bne_eq_false_iff_eq.mpr c5
  clear c5
  simp only [Option.some.injEq, Prod.mk.injEq] at H
  obtain ⟨rfl, rfl⟩ := H
  go_enter Tryz.func90, Tryz.ntmps90
  go_wp2
  go_ret2
  exact ⟨by first | rfl | (simp; done) | (simp [*]; done), by repeat (first | exact Drawn0.refl _ | apply Drawn0.step)⟩
 ·rw [if_neg c5] at H
  have c5b0 : (a0 == 0) = false := beq_eq_false_iff_ne.mpr c5
  have c5b1 : (a0 != 0) = true := bne_iff_ne.mpr c5
  by_cases c6 : a0 = 1
  ·rw [if_pos c6] at H
   have c6b0 : (a0 == 1) = true := beq_iff_eq.mpr c6
   have c6b1 : (a0 != 1) = false := bne_eq_false_iff_eq.mpr c6
   clear c6
   simp only [Option.some.injEq, Prod.mk.injEq] at H
   obtain ⟨rfl, rfl⟩ := H
   go_enter Tryz.func90, Tryz.ntmps90
   go_wp2
   go_ret2
   exact ⟨by first | rfl | (simp; done) | (simp [*]; done), by repeat (first | exact Drawn0.refl _ | apply Drawn0.step)⟩
  ·rw [if_neg c6] at H
   have c6b0 : (a0 == 1) = false := beq_eq_false_iff_ne.mpr c6
   have c6b1 : (a0 != 1) = true := bne_iff_ne.mpr c6
   by_cases c7 : a0 = 2
   ·rw [if_pos c7] at H
    have c7b0 : (a0 == 2) = true := beq_iff_eq.mpr c7
    have c7b1 : (a0 != 2) = false := bne_eq_false_iff_eq.mpr c7
    clear c7
    simp only [Option.some.injEq, Prod.mk.injEq] at H
    obtain ⟨rfl, rfl⟩ := H
    go_enter Tryz.func90, Tryz.ntmps90
    go_wp2
    go_ret2
    exact ⟨by first | rfl | (simp; done) | (simp [*]; done), by repeat (first | exact Drawn0.refl _ | apply Drawn0.step)⟩
   ·rw [if_neg c7] at H
    have c7b0 : (a0 == 2) = false := beq_eq_false_iff_ne.mpr c7
    have c7b1 : (a0 != 2) = true := bne_iff_ne.mpr c7
    by_cases c8 : a0 = 3
    ·rw [if_pos c8] at H
     have c8b0 : (a0 == 3) = true := beq_iff_eq.mpr c8
     have c8b1 : (a0 != 3) = false := bne_eq_false_iff_eq.mpr c8
     clear c8
     by_cases c9 : a2 = 0
     ·rw [if_pos c9] at H
      have c9b0 : (a2 == 0) = true := beq_iff_eq.mpr c9
      have c9b1 : (a2 != 0) = false := bne_eq_false_iff_eq.mpr c9
      clear c9
      simp only [Option.some.injEq, Prod.mk.injEq] at H
      obtain ⟨rfl, rfl⟩ := H
      go_enter Tryz.func90, Tryz.ntmps90
      go_wp2
      go_ret2
      exact ⟨by first | rfl | (simp; done) | (simp [*]; done), by repeat (first | exact Drawn0.refl _ | apply Drawn0.step)⟩
     ·rw [if_neg c9] at H
      have c9b0 : (a2 == 0) = false := beq_eq_false_iff_ne.mpr c9
      have c9b1 : (a2 != 0) = true := bne_iff_ne.mpr c9
      simp only [Option.some.injEq, Prod.mk.injEq] at H
      obtain ⟨rfl, rfl⟩ := H
      go_enter Tryz.func90, Tryz.ntmps90
      go_wp2
      go_ret2
      exact ⟨by first | rfl | (simp; done) | (simp [*]; done), by repeat (first | exact Drawn0.refl _ | apply Drawn0.step)⟩
    ·rw [if_neg c8] at H
     have c8b0 : (a0 == 3) = false := beq_eq_false_iff_ne.mpr c8
     have c8b1 : (a0 != 3) = true := bne_iff_ne.mpr c8
     by_cases c10 : a0 = 9
     ·rw [if_pos c10] at H
      have c10b0 : (a0 == 9) = true := beq_iff_eq.mpr c10
      have c10b1 : (a0 != 9) = false := bne_eq_false_iff_eq.mpr c10
      clear c10
      by_cases c11 : a2 = 0
      ·rw [if_pos c11] at H
       have c11b0 : (a2 == 0) = true := beq_iff_eq.mpr c11
       have c11b1 : (a2 != 0) = false := bne_eq_false_iff_eq.mpr c11
       clear c11
       simp only [Option.some.injEq, Prod.mk.injEq] at H
       obtain ⟨rfl, rfl⟩ := H
       go_enter Tryz.func90, Tryz.ntmps90
       go_wp2
       go_ret2
       exact ⟨by first | rfl | (simp; done) | (simp [*]; done), by repeat (first | exact Drawn0.refl _ | apply Drawn0.step)⟩
      ·rw [if_neg c11] at H
       have c11b0 : (a2 == 0) = false := beq_eq_false_iff_ne.mpr c11
       have c11b1 : (a2 != 0) = true := bne_iff_ne.mpr c11
       simp only [Option.some.injEq, Prod.mk.injEq] at H
       obtain ⟨rfl, rfl⟩ := H
       go_enter Tryz.func90, Tryz.ntmps90
       go_wp2
       go_ret2
       exact ⟨by first | rfl | (simp; done) | (simp [*]; done), by repeat (first | exact Drawn0.refl _ | apply Drawn0.step)⟩
     ·rw [if_neg c10] at H
      have c10b0 : (a0 == 9) = false := beq_eq_false_iff_ne.mpr c10
      have c10b1 : (a0 != 9) = true := bne_iff_ne.mpr c10
      by_cases c12 : a0 = 4
      ·rw [if_pos c12] at H
       have c12b0 : (a0 == 4) = true := beq_iff_eq.mpr c12
       have c12b1 : (a0 != 4) = false := bne_eq_false_iff_eq.mpr c12
       clear c12
       simp only [Option.some.injEq, Prod.mk.injEq] at H
       obtain ⟨rfl, rfl⟩ := H
       go_enter Tryz.func90, Tryz.ntmps90
       go_wp2
       go_ret2
       exact ⟨by first | rfl | (simp; done) | (simp [*]; done), by repeat (first | exact Drawn0.refl _ | apply Drawn0.step)⟩
      ·rw [if_neg c12] at H
       have c12b0 : (a0 == 4) = false := beq_eq_false_iff_ne.mpr c12
       have c12b1 : (a0 != 4) = true := bne_iff_ne.mpr c12
       by_cases c13 : a0 = 5
       ·rw [if_pos c13] at H
        have c13b0 : (a0 == 5) = true := beq_iff_eq.mpr c13
        have c13b1 : (a0 != 5) = false := bne_eq_false_iff_eq.mpr c13
        clear c13
        simp only [Option.some.injEq, Prod.mk.injEq] at H
        obtain ⟨rfl, rfl⟩ := H
        go_enter Tryz.func90, Tryz.ntmps90
        go_wp2
        go_ret2
        exact ⟨by first | rfl | (simp; done) | (simp [*]; done), by repeat (first | exact Drawn0.refl _ | apply Drawn0.step)⟩
       ·rw [if_neg c13] at H
        have c13b0 : (a0 == 5) = false := beq_eq_false_iff_ne.mpr c13
        have c13b1 : (a0 != 5) = true := bne_iff_ne.mpr c13
        by_cases c14 : a0 = 10
        ·rw [if_pos c14] at H
         have c14b0 : (a0 == 10) = true := beq_iff_eq.mpr c14
         have c14b1 : (a0 != 10) = false := bne_eq_false_iff_eq.mpr c14
         clear c14
         simp only [Option.some.injEq, Prod.mk.injEq] at H
         obtain ⟨rfl, rfl⟩ := H
         go_enter Tryz.func90, Tryz.ntmps90
         go_wp2
         go_ret2
         exact ⟨by first | rfl | (simp; done) | (simp [*]; done), by repeat (first | exact Drawn0.refl _ | apply Drawn0.step)⟩
        ·rw [if_neg c14] at H
         have c14b0 : (a0 == 10) = false := beq_eq_false_iff_ne.mpr c14
         have c14b1 : (a0 != 10) = true := bne_iff_ne.mpr c14
         by_cases c15 : a0 = 6
         ·rw [if_pos c15] at H
          have c15b0 : (a0 == 6) = true := beq_iff_eq.mpr c15
          have c15b1 : (a0 != 6) = false := bne_eq_false_iff_eq.mpr c15
          clear c15
          by_cases c16 : a3 = 0
          ·rw [if_pos c16] at H
           exact absurd H (by simp)
          ·rw [if_neg c16] at H
           have c16b0 : (a3 == 0) = false := beq_eq_false_iff_ne.mpr c16
           have c16b1 : (a3 != 0) = true := bne_iff_ne.mpr c16
           obtain ⟨ji17, hji17⟩ : ∃ j_ : Int, (Int.tmod a2 a3) = j_ := ⟨_, rfl⟩
           replace H : (if 0 ≤ (ji17) then (some (shl .u64 a1 (ji17), true)) else (none)) = some (r1, r2) := by first | (rw [hji17] at H; exact H) | (simp only [hji17] at H ⊢; exact H)
           by_cases c18 : 0 ≤ (ji17)
           ·rw [if_pos c18] at H
            have c18b0 := eq_true c18
            have c18b1 : decide (0 ≤ (ji17)) = true := decide_eq_true c18
            clear c18
            obtain ⟨ji19, hji19⟩ : ∃ j_ : Int, (shl .u64 a1 (ji17)) = j_ := ⟨_, rfl⟩
            replace H : (some (ji19, true)) = some (r1, r2) := by first | (rw [hji19] at H; exact H) | (simp only [hji19] at H ⊢; exact H)
            have hji19_ : (IntKind.u64.wrap (a1 * 2 ^ min (ji17).toNat 64)) = ji19 := hji19
            have hji19z : (ji17) ≤ 64 → (IntKind.u64.wrap (a1 * 2 ^ (ji17).toNat)) = ji19 := shl_small hji19
            simp only [Option.some.injEq, Prod.mk.injEq] at H
            obtain ⟨rfl, rfl⟩ := H
            go_enter Tryz.func90, Tryz.ntmps90
            go_wp2
            go_ret2
            exact ⟨by first | rfl | (simp; done) | (simp only [← hji17, ← hji19] <;> (first | rfl | simp)) | (simp [*]; done), by repeat (first | exact Drawn0.refl _ | apply Drawn0.step)⟩
           ·rw [if_neg c18] at H
            exact absurd H (by simp)
         ·rw [if_neg c15] at H
          have c15b0 : (a0 == 6) = false := beq_eq_false_iff_ne.mpr c15
          have c15b1 : (a0 != 6) = true := bne_iff_ne.mpr c15
          by_cases c20 : a0 = 7
          ·rw [if_pos c20] at H
           have c20b0 : (a0 == 7) = true := beq_iff_eq.mpr c20
           have c20b1 : (a0 != 7) = false := bne_eq_false_iff_eq.mpr c20
           clear c20
           by_cases c21 : a3 = 0
           ·rw [if_pos c21] at H
            exact absurd H (by simp)
           ·rw [if_neg c21] at H
            have c21b0 : (a3 == 0) = false := beq_eq_false_iff_ne.mpr c21
            have c21b1 : (a3 != 0) = true := bne_iff_ne.mpr c21
            obtain ⟨ji22, hji22⟩ : ∃ j_ : Int, (Int.tmod a2 a3) = j_ := ⟨_, rfl⟩
            replace H : (if 0 ≤ (ji22) then (some (shr .u64 a1 (ji22), true)) else (none)) = some (r1, r2) := by first | (rw [hji22] at H; exact H) | (simp only [hji22] at H ⊢; exact H)
            by_cases c23 : 0 ≤ (ji22)
            ·rw [if_pos c23] at H
             have c23b0 := eq_true c23
             have c23b1 : decide (0 ≤ (ji22)) = true := decide_eq_true c23
             clear c23
             obtain ⟨ji24, hji24⟩ : ∃ j_ : Int, (shr .u64 a1 (ji22)) = j_ := ⟨_, rfl⟩
             replace H : (some (ji24, true)) = some (r1, r2) := by first | (rw [hji24] at H; exact H) | (simp only [hji24] at H ⊢; exact H)
             have hji24_ : (a1 / 2 ^ min (ji22).toNat 64) = ji24 := hji24
             have hji24z : (ji22) ≤ 64 → (a1 / 2 ^ (ji22).toNat) = ji24 := shr_small hji24
             simp only [Option.some.injEq, Prod.mk.injEq] at H
             obtain ⟨rfl, rfl⟩ := H
             go_enter Tryz.func90, Tryz.ntmps90
             go_wp2
             go_ret2
             exact ⟨by first | rfl | (simp; done) | (simp only [← hji22, ← hji24] <;> (first | rfl | simp)) | (simp [*]; done), by repeat (first | exact Drawn0.refl _ | apply Drawn0.step)⟩
            ·rw [if_neg c23] at H
             exact absurd H (by simp)
          ·rw [if_neg c20] at H
           have c20b0 : (a0 == 7) = false := beq_eq_false_iff_ne.mpr c20
           have c20b1 : (a0 != 7) = true := bne_iff_ne.mpr c20
           by_cases c25 : a0 = 8
           ·rw [if_pos c25] at H
            have c25b0 : (a0 == 8) = true := beq_iff_eq.mpr c25
            have c25b1 : (a0 != 8) = false := bne_eq_false_iff_eq.mpr c25
            clear c25
            simp only [Option.some.injEq, Prod.mk.injEq] at H
            obtain ⟨rfl, rfl⟩ := H
            go_enter Tryz.func90, Tryz.ntmps90
            go_wp2
            go_ret2
            exact ⟨by first | rfl | (simp; done) | (simp [*]; done), by repeat (first | exact Drawn0.refl _ | apply Drawn0.step)⟩
           ·rw [if_neg c25] at H
            have c25b0 : (a0 == 8) = false := beq_eq_false_iff_ne.mpr c25
            have c25b1 : (a0 != 8) = true := bne_iff_ne.mpr c25
            by_cases c26 : a0 = 11
            ·rw [if_pos c26] at H
             have c26b0 : (a0 == 11) = true := beq_iff_eq.mpr c26
             have c26b1 : (a0 != 11) = false := bne_eq_false_iff_eq.mpr c26
             clear c26
             simp only [Option.some.injEq, Prod.mk.injEq] at H
             obtain ⟨rfl, rfl⟩ := H
             go_enter Tryz.func90, Tryz.ntmps90
             go_wp2
             go_ret2
             exact ⟨by first | rfl | (simp; done) | (simp [*]; done), by repeat (first | exact Drawn0.refl _ | apply Drawn0.step)⟩
            ·rw [if_neg c26] at H
             have c26b0 : (a0 == 11) = false := beq_eq_false_iff_ne.mpr c26
             have c26b1 : (a0 != 11) = true := bne_iff_ne.mpr c26
             simp only [Option.some.injEq, Prod.mk.injEq] at H
             obtain ⟨rfl, rfl⟩ := H
             go_enter Tryz.func90, Tryz.ntmps90
             go_wp2
             go_ret2
             exact ⟨by first | rfl | (simp; done) | (simp [*]; done), by repeat (first | exact Drawn0.refl _ | apply Drawn0.step)⟩

/-! ### word_pure_uint32: function 91 -/
def word_pure_uint32.f (a0 : Int) (a1 : Int) (a2 : Int) (a3 : Int) : Option (Int × Bool) := if a0 = 0 then (some ((a1 + a2) % 4294967296, true)) else (if a0 = 1 then (some ((a1 - a2) % 4294967296, true)) else (if a0 = 2 then (some ((a1 * a2) % 4294967296, true)) else (if a0 = 3 then (if a2 = 0 then (some (0, true)) else (some ((Int.tdiv a1 a2) % 4294967296, true))) else (if a0 = 9 then (if a2 = 0 then (some (a1, true)) else (some (Int.tmod a1 a2, true))) else (if a0 = 4 then (some (Go.bits .or .u32 a1 a2, true)) else (if a0 = 5 then (some (Go.bits .and .u32 a1 a2, true)) else (if a0 = 10 then (some (Go.bits .xor .u32 a1 a2, true)) else (if a0 = 6 then (if a3 = 0 then (none) else (if 0 ≤ (Int.tmod a2 a3) then (some (shl .u32 a1 (Int.tmod a2 a3), true)) else (none))) else (if a0 = 7 then (if a3 = 0 then (none) else (if 0 ≤ (Int.tmod a2 a3) then (some (shr .u32 a1 (Int.tmod a2 a3), true)) else (none))) else (if a0 = 8 then (some ((-a1) % 4294967296, true)) else (if a0 = 11 then (some (a2, true)) else (some (0, false)))))))))))))
set_option maxHeartbeats 8000000 in
set_option maxRecDepth 100000 in
theorem word_pure_uint32.calls (a0 : Int) (a1 : Int) (a2 : Int) (a3 : Int) (r1 : Int) (r2 : Bool) (w : World) (h : word_pure_uint32.f a0 a1 a2 a3 = some (r1, r2)) :
 Calls Tryz.prog 91 #[.int .i64 a0, .int .u32 a1, .int .u32 a2, .int .u32 a3] w fun e w' => e = .returned (.tuple #[.int .u32 r1, .bool r2]) ∧ Drawn0 w w' := by
 have H : (if a0 = 0 then (some ((a1 + a2) % 4294967296, true)) else (if a0 = 1 then (some ((a1 - a2) % 4294967296, true)) else (if a0 = 2 then (some ((a1 * a2) % 4294967296, true)) else (if a0 = 3 then (if a2 = 0 then (some (0, true)) else (some ((Int.tdiv a1 a2) % 4294967296, true))) else (if a0 = 9 then (if a2 = 0 then (some (a1, true)) else (some (Int.tmod a1 a2, true))) else (if a0 = 4 then (some (Go.bits .or .u32 a1 a2, true)) else (if a0 = 5 then (some (Go.bits .and .u32 a1 a2, true)) else (if a0 = 10 then (some (Go.bits .xor .u32 a1 a2, true)) else (if a0 = 6 then (if a3 = 0 then (none) else (if 0 ≤ (Int.tmod a2 a3) then (some (shl .u32 a1 (Int.tmod a2 a3), true)) else (none))) else (if a0 = 7 then (if a3 = 0 then (none) else (if 0 ≤ (Int.tmod a2 a3) then (some (shr .u32 a1 (Int.tmod a2 a3), true)) else (none))) else (if a0 = 8 then (some ((-a1) % 4294967296, true)) else (if a0 = 11 then (some (a2, true)) else (some (0, false)))))))))))))) = some (r1, r2) := h
 clear h
 by_cases c5 : a0 = 0
 ·rw [if_pos c5] at H
  have c5b0 : (a0 == 0) = true := beq_iff_eq.mpr c5
  have c5b1 : (a0 != 0) = false := bne_eq_false_iff_eq.mpr c5
  clear c5
  simp only [Option.some.injEq, Prod.mk.injEq] at H
  obtain ⟨rfl, rfl⟩ := H
  go_enter Tryz.func91, Tryz.ntmps91
  go_wp2
  go_ret2
  exact ⟨by first | rfl | (simp; done) | (simp [*]; done), by repeat (first | exact Drawn0.refl _ | apply Drawn0.step)⟩
 ·rw [if_neg c5] at H
  have c5b0 : (a0 == 0) = false := beq_eq_false_iff_ne.mpr c5
  have c5b1 : (a0 != 0) = true := bne_iff_ne.mpr c5
  by_cases c6 : a0 = 1
  ·rw [if_pos c6] at H
   have c6b0 : (a0 == 1) = true := beq_iff_eq.mpr c6
   have c6b1 : (a0 != 1) = false := bne_eq_false_iff_eq.mpr c6
   clear c6
   simp only [Option.some.injEq, Prod.mk.injEq] at H
   obtain ⟨rfl, rfl⟩ := H
   go_enter Tryz.func91, Tryz.ntmps91
   go_wp2
   go_ret2
   exact ⟨by first | rfl | (simp; done) | (simp [*]; done), by repeat (first | exact Drawn0.refl _ | apply Drawn0.step)⟩
  ·rw [if_neg c6] at H
   have c6b0 : (a0 == 1) = false := beq_eq_false_iff_ne.mpr c6
   have c6b1 : (a0 != 1) = true := bne_iff_ne.mpr c6
   by_cases c7 : a0 = 2
   ·rw [if_pos c7] at H
    have c7b0 : (a0 == 2) = true := beq_iff_eq.mpr c7
    have c7b1 : (a0 != 2) = false := bne_eq_false_iff_eq.mpr c7
    clear c7
    simp only [Option.some.injEq, Prod.mk.injEq] at H
    obtain ⟨rfl, rfl⟩ := H
    go_enter Tryz.func91, Tryz.ntmps91
    go_wp2
    go_ret2
    exact ⟨by first | rfl | (simp; done) | (simp [*]; done), by repeat (first | exact Drawn0.refl _ | apply Drawn0.step)⟩
   ·rw [if_neg c7] at H
    have c7b0 : (a0 == 2) = false := beq_eq_false_iff_ne.mpr c7
    have c7b1 : (a0 != 2) = true := bne_iff_ne.mpr c7
    by_cases c8 : a0 = 3
    ·rw [if_pos c8] at H
     have c8b0 : (a0 == 3) = true := beq_iff_eq.mpr c8
     have c8b1 : (a0 != 3) = false := bne_eq_false_iff_eq.mpr c8
     clear c8
     by_cases c9 : a2 = 0
     ·rw [if_pos c9] at H
      have c9b0 : (a2 == 0) = true := beq_iff_eq.mpr c9
      have c9b1 : (a2 != 0) = false := bne_eq_false_iff_eq.mpr c9
      clear c9
      simp only [Option.some.injEq, Prod.mk.injEq] at H
      obtain ⟨rfl, rfl⟩ := H
      go_enter Tryz.func91, Tryz.ntmps91
      go_wp2
      go_ret2
      exact ⟨by first | rfl | (simp; done) | (simp [*]; done), by repeat (first | exact Drawn0.refl _ | apply Drawn0.step)⟩
     ·rw [if_neg c9] at H
      have c9b0 : (a2 == 0) = false := beq_eq_false_iff_ne.mpr c9
      have c9b1 : (a2 != 0) = true := bne_iff_ne.mpr c9
      simp only [Option.some.injEq, Prod.mk.injEq] at H
      obtain ⟨rfl, rfl⟩ := H
      go_enter Tryz.func91, Tryz.ntmps91
      go_wp2
      go_ret2
      exact ⟨by first | rfl | (simp; done) | (simp [*]; done), by repeat (first | exact Drawn0.refl _ | apply Drawn0.step)⟩
    ·rw [if_neg c8] at H
     have c8b0 : (a0 == 3) = false := beq_eq_false_iff_ne.mpr c8
     have c8b1 : (a0 != 3) = true := bne_iff_ne.mpr c8
     by_cases c10 : a0 = 9
     ·rw [if_pos c10] at H
      have c10b0 : (a0 == 9) = true := beq_iff_eq.mpr c10
      have c10b1 : (a0 != 9) = false := bne_eq_false_iff_eq.mpr c10
      clear c10
      by_cases c11 : a2 = 0
      ·rw [if_pos c11] at H
       have c11b0 : (a2 == 0) = true := beq_iff_eq.mpr c11
       have c11b1 : (a2 != 0) = false := bne_eq_false_iff_eq.mpr c11
       clear c11
       simp only [Option.some.injEq, Prod.mk.injEq] at H
       obtain ⟨rfl, rfl⟩ := H
       go_enter Tryz.func91, Tryz.ntmps91
       go_wp2
       go_ret2
       exact ⟨by first | rfl | (simp; done) | (simp [*]; done), by repeat (first | exact Drawn0.refl _ | apply Drawn0.step)⟩
      ·rw [if_neg c11] at H
       have c11b0 : (a2 == 0) = false := beq_eq_false_iff_ne.mpr c11
       have c11b1 : (a2 != 0) = true := bne_iff_ne.mpr c11
       simp only [Option.some.injEq, Prod.mk.injEq] at H
       obtain ⟨rfl, rfl⟩ := H
       go_enter Tryz.func91, Tryz.ntmps91
       go_wp2
       go_ret2
       exact ⟨by first | rfl | (simp; done) | (simp [*]; done), by repeat (first | exact Drawn0.refl _ | apply Drawn0.step)⟩
     ·rw [if_neg c10] at H
      have c10b0 : (a0 == 9) = false := beq_eq_false_iff_ne.mpr c10
      have c10b1 : (a0 != 9) = true := bne_iff_ne.mpr c10
      by_cases c12 : a0 = 4
      ·rw [if_pos c12] at H
       have c12b0 : (a0 == 4) = true := beq_iff_eq.mpr c12
       have c12b1 : (a0 != 4) = false := bne_eq_false_iff_eq.mpr c12
       clear c12
       simp only [Option.some.injEq, Prod.mk.injEq] at H
       obtain ⟨rfl, rfl⟩ := H
       go_enter Tryz.func91, Tryz.ntmps91
       go_wp2
       go_ret2
       exact ⟨by first | rfl | (simp; done) | (simp [*]; done), by repeat (first | exact Drawn0.refl _ | apply Drawn0.step)⟩
      ·rw [if_neg c12] at H
       have c12b0 : (a0 == 4) = false := beq_eq_false_iff_ne.mpr c12
       have c12b1 : (a0 != 4) = true := bne_iff_ne.mpr c12
       by_cases c13 : a0 = 5
       ·rw [if_pos c13] at H
        have c13b0 : (a0 == 5) = true := beq_iff_eq.mpr c13
        have c13b1 : (a0 != 5) = false := bne_eq_false_iff_eq.mpr c13
        clear c13
        simp only [Option.some.injEq, Prod.mk.injEq] at H
        obtain ⟨rfl, rfl⟩ := H
        go_enter Tryz.func91, Tryz.ntmps91
        go_wp2
        go_ret2
        exact ⟨by first | rfl | (simp; done) | (simp [*]; done), by repeat (first | exact Drawn0.refl _ | apply Drawn0.step)⟩
       ·rw [if_neg c13] at H
        have c13b0 : (a0 == 5) = false := beq_eq_false_iff_ne.mpr c13
        have c13b1 : (a0 != 5) = true := bne_iff_ne.mpr c13
        by_cases c14 : a0 = 10
        ·rw [if_pos c14] at H
         have c14b0 : (a0 == 10) = true := beq_iff_eq.mpr c14
         have c14b1 : (a0 != 10) = false := bne_eq_false_iff_eq.mpr c14
         clear c14
         simp only [Option.some.injEq, Prod.mk.injEq] at H
         obtain ⟨rfl, rfl⟩ := H
         go_enter Tryz.func91, Tryz.ntmps91
         go_wp2
         go_ret2
         exact ⟨by first | rfl | (simp; done) | (simp [*]; done), by repeat (first | exact Drawn0.refl _ | apply Drawn0.step)⟩
        ·rw [if_neg c14] at H
         have c14b0 : (a0 == 10) = false := beq_eq_false_iff_ne.mpr c14
         have c14b1 : (a0 != 10) = true := bne_iff_ne.mpr c14
         by_cases c15 : a0 = 6
         ·rw [if_pos c15] at H
          have c15b0 : (a0 == 6) = true := beq_iff_eq.mpr c15
          have c15b1 : (a0 != 6) = false := bne_eq_false_iff_eq.mpr c15
          clear c15
          by_cases c16 : a3 = 0
          ·rw [if_pos c16] at H
           exact absurd H (by simp)
          ·rw [if_neg c16] at H
           have c16b0 : (a3 == 0) = false := beq_eq_false_iff_ne.mpr c16
           have c16b1 : (a3 != 0) = true := bne_iff_ne.mpr c16
           obtain ⟨ji17, hji17⟩ : ∃ j_ : Int, (Int.tmod a2 a3) = j_ := ⟨_, rfl⟩
           replace H : (if 0 ≤ (ji17) then (some (shl .u32 a1 (ji17), true)) else (none)) = some (r1, r2) := by first | (rw [hji17] at H; exact H) | (simp only [hji17] at H ⊢; exact H)
           by_cases c18 : 0 ≤ (ji17)
           ·rw [if_pos c18] at H
            have c18b0 := eq_true c18
            have c18b1 : decide (0 ≤ (ji17)) = true := decide_eq_true c18
            clear c18
            obtain ⟨ji19, hji19⟩ : ∃ j_ : Int, (shl .u32 a1 (ji17)) = j_ := ⟨_, rfl⟩
            replace H : (some (ji19, true)) = some (r1, r2) := by first | (rw [hji19] at H; exact H) | (simp only [hji19] at H ⊢; exact H)
            have hji19_ : (IntKind.u32.wrap (a1 * 2 ^ min (ji17).toNat 32)) = ji19 := hji19
            have hji19z : (ji17) ≤ 32 → (IntKind.u32.wrap (a1 * 2 ^ (ji17).toNat)) = ji19 := shl_small hji19
            simp only [Option.some.injEq, Prod.mk.injEq] at H
            obtain ⟨rfl, rfl⟩ := H
            go_enter Tryz.func91, Tryz.ntmps91
            go_wp2
            go_ret2
            exact ⟨by first | rfl | (simp; done) | (simp only [← hji17, ← hji19] <;> (first | rfl | simp)) | (simp [*]; done), by repeat (first | exact Drawn0.refl _ | apply Drawn0.step)⟩
           ·rw [if_neg c18] at H
            exact absurd H (by simp)
         ·rw [if_neg c15] at H
          have c15b0 : (a0 == 6) = false := beq_eq_false_iff_ne.mpr c15
          have c15b1 : (a0 != 6) = true := bne_iff_ne.mpr c15
          by_cases c20 : a0 = 7
          ·rw [if_pos c20] at H
           have c20b0 : (a0 == 7) = true := beq_iff_eq.mpr c20
           have c20b1 : (a0 != 7) = false := bne_eq_false_iff_eq.mpr c20
           clear c20
           by_cases c21 : a3 = 0
           ·rw [if_pos c21] at H
            exact absurd H (by simp)
           ·rw [if_neg c21] at H
            have c21b0 : (a3 == 0) = false := beq_eq_false_iff_ne.mpr c21
            have c21b1 : (a3 != 0) = true := bne_iff_ne.mpr c21
            obtain ⟨ji22, hji22⟩ : ∃ j_ : Int, (Int.tmod a2 a3) = j_ := ⟨_, rfl⟩
            replace H : (if 0 ≤ (ji22) then (some (shr .u32 a1 (ji22), true)) else (none)) = some (r1, r2) := by first | (rw [hji22] at H; exact H) | (simp only [hji22] at H ⊢; exact H)
            by_cases c23 : 0 ≤ (ji22)
            ·rw [if_pos c23] at H
             have c23b0 := eq_true c23
             have c23b1 : decide (0 ≤ (ji22)) = true := decide_eq_true c23
             clear c23
             obtain ⟨ji24, hji24⟩ : ∃ j_ : Int, (shr .u32 a1 (ji22)) = j_ := ⟨_, rfl⟩
             replace H : (some (ji24, true)) = some (r1, r2) := by first | (rw [hji24] at H; exact H) | (simp only [hji24] at H ⊢; exact H)
             have hji24_ : (a1 / 2 ^ min (ji22).toNat 32) = ji24 := hji24
             have hji24z : (ji22) ≤ 32 → (a1 / 2 ^ (ji22).toNat) = ji24 := shr_small hji24
             simp only [Option.some.injEq, Prod.mk.injEq] at H
             obtain ⟨rfl, rfl⟩ := H
             go_enter Tryz.func91, Tryz.ntmps91
             go_wp2
             go_ret2
             exact ⟨by first | rfl | (simp; done) | (simp only [← hji22, ← hji24] <;> (first | rfl | simp)) | (simp [*]; done), by repeat (first | exact Drawn0.refl _ | apply Drawn0.step)⟩
            ·rw [if_neg c23] at H
             exact absurd H (by simp)
          ·rw [if_neg c20] at H
           have c20b0 : (a0 == 7) = false := beq_eq_false_iff_ne.mpr c20
           have c20b1 : (a0 != 7) = true := bne_iff_ne.mpr c20
           by_cases c25 : a0 = 8
           ·rw [if_pos c25] at H
            have c25b0 : (a0 == 8) = true := beq_iff_eq.mpr c25
            have c25b1 : (a0 != 8) = false := bne_eq_false_iff_eq.mpr c25
            clear c25
            simp only [Option.some.injEq, Prod.mk.injEq] at H
            obtain ⟨rfl, rfl⟩ := H
            go_enter Tryz.func91, Tryz.ntmps91
            go_wp2
            go_ret2
            exact ⟨by first | rfl | (simp; done) | (simp [*]; done), by repeat (first | exact Drawn0.refl _ | apply Drawn0.step)⟩
           ·rw [if_neg c25] at H
            have c25b0 : (a0 == 8) = false := beq_eq_false_iff_ne.mpr c25
            have c25b1 : (a0 != 8) = true := bne_iff_ne.mpr c25
            by_cases c26 : a0 = 11
            ·rw [if_pos c26] at H
             have c26b0 : (a0 == 11) = true := beq_iff_eq.mpr c26
             have c26b1 : (a0 != 11) = false := bne_eq_false_iff_eq.mpr c26
             clear c26
             simp only [Option.some.injEq, Prod.mk.injEq] at H
             obtain ⟨rfl, rfl⟩ := H
             go_enter Tryz.func91, Tryz.ntmps91
             go_wp2
             go_ret2
             exact ⟨by first | rfl | (simp; done) | (simp [*]; done), by repeat (first | exact Drawn0.refl _ | apply Drawn0.step)⟩
            ·rw [if_neg c26] at H
             have c26b0 : (a0 == 11) = false := beq_eq_false_iff_ne.mpr c26
             have c26b1 : (a0 != 11) = true := bne_iff_ne.mpr c26
             simp only [Option.some.injEq, Prod.mk.injEq] at H
             obtain ⟨rfl, rfl⟩ := H
             go_enter Tryz.func91, Tryz.ntmps91
             go_wp2
             go_ret2
             exact ⟨by first | rfl | (simp; done) | (simp [*]; done), by repeat (first | exact Drawn0.refl _ | apply Drawn0.step)⟩

/-! ### word_Alu: function 31 -/
def word_Alu.j0 : Nat → Int → Bool → Int → Int → Bool → Option (Int × Bool)
 | 0, _, _, _, _, _ => none
 | k + 1, x0, x1, x2, x3, x12 => if x12 = true then (if 0 ≤ (Int.tmod x3 64) then (some (IntKind.u64.wrap (shr .i64 (wrap64 (x2)) (Int.tmod x3 64)), true)) else (none)) else (if x0 = 12 then (if 0 ≤ (Int.tmod x3 32) then (some ((shr .i32 (wrap32 ((x2) % 4294967296)) (Int.tmod x3 32)) % 4294967296, true)) else (none)) else (if x1 = true then ((word_pure_uint64.f x0 x2 x3 64).bind fun bt126 => (some (bt126.1, bt126.2))) else ((word_pure_uint32.f x0 ((x2) % 4294967296) ((x3) % 4294967296) 32).bind fun bt128 => (some (IntKind.u64.wrap (bt128.1), bt128.2)))))
def word_Alu.f (k : Nat) (a0 : Int) (a1 : Bool) (a2 : Int) (a3 : Int) : Option (Int × Bool) := if a0 = 12 then (word_Alu.j0 k a0 a1 a2 a3 a1) else (word_Alu.j0 k a0 a1 a2 a3 false)
theorem word_Alu.mono_l : ∀ k, (∀ y0 y1 y2 y3 y4, LeO (word_Alu.j0 k y0 y1 y2 y3 y4) (word_Alu.j0 (k + 1) y0 y1 y2 y3 y4))
 | 0 => fun _ _ _ _ _ r h => by simp [word_Alu.j0] at h
 | k + 1 => by
  have ih0 := word_Alu.mono_l k
  ·intro y0 y1 y2 y3 y4
   unfold word_Alu.j0
   repeat' first
   | (with_reducible exact ih0 _ _ _ _ _)
   | (with_reducible exact LeO.refl _)
   | (with_reducible exact LeO.none _)
   | (with_reducible refine LeO.ite ?_ ?_)
   | (with_reducible refine LeO.bind ?_ (fun _ => ?_))
   | exact ih0 _ _ _ _ _
   | exact LeO.none _
   | refine LeO.ite ?_ ?_
   | refine LeO.bind ?_ (fun _ => ?_)
theorem word_Alu.mono : ∀ a0 a1 a2 a3 k, LeO (word_Alu.f k a0 a1 a2 a3) (word_Alu.f (k + 1) a0 a1 a2 a3) := by
 intro a0 a1 a2 a3 k
 have ih0 := word_Alu.mono_l k
 unfold word_Alu.f
 repeat' first
  | (with_reducible exact ih0 _ _ _ _ _)
  | (with_reducible exact LeO.refl _)
  | (with_reducible exact LeO.none _)
  | (with_reducible refine LeO.ite ?_ ?_)
  | (with_reducible refine LeO.bind ?_ (fun _ => ?_))
  | exact ih0 _ _ _ _ _
  | exact LeO.none _
  | refine LeO.ite ?_ ?_
  | refine LeO.bind ?_ (fun _ => ?_)
set_option maxHeartbeats 8000000 in
set_option maxRecDepth 100000 in
theorem word_Alu.calls (k : Nat) (a0 : Int) (a1 : Bool) (a2 : Int) (a3 : Int) (r1 : Int) (r2 : Bool) (w : World) (h : word_Alu.f k a0 a1 a2 a3 = some (r1, r2)) :
 Calls Tryz.prog 31 #[.int .i64 a0, .bool a1, .int .u64 a2, .int .u64 a3] w fun e w' => e = .returned (.tuple #[.int .u64 r1, .bool r2]) ∧ Drawn0 w w' := by
 have H : (if a0 = 12 then (word_Alu.j0 k a0 a1 a2 a3 a1) else (word_Alu.j0 k a0 a1 a2 a3 false)) = some (r1, r2) := h
 clear h
 have HC5 := Aside0.mk H
 clear H
 go_enter Tryz.func31, Tryz.ntmps31
 go_upto_region 1 with (fail)
 go_cut [12] (fun v12 wc => ∃ (kq : Nat) (x12_4 : Bool), v12 = .bool x12_4 ∧ Aside0 (word_Alu.j0 kq a0 a1 a2 a3 x12_4 = some (r1, r2)) ∧ Aside0 (kq ≤ k) ∧ Drawn0 w wc)
 case first =>
  have H := HC5.out
  clear HC5
  by_cases c6 : a0 = 12
  ·rw [if_pos c6] at H
   have c6b0 : (a0 == 12) = true := beq_iff_eq.mpr c6
   have c6b1 : (a0 != 12) = false := bne_eq_false_iff_eq.mpr c6
   clear c6
   (first | rw [c6b0] | (simp only [i64_w, i32_w]; rw [c6b0]) | skip)
   have H' := Aside0.mk H
   clear H
   go_wp2
   go_meet
   case rel => exact ⟨_, (a1), (by first | rfl | (simp; done) | (simp [*]; done)), H', ⟨by first | omega | exact Nat.le_refl _⟩, by repeat (first | exact Drawn0.refl _ | apply Drawn0.step)⟩
  ·rw [if_neg c6] at H
   have c6b0 : (a0 == 12) = false := beq_eq_false_iff_ne.mpr c6
   have c6b1 : (a0 != 12) = true := bne_iff_ne.mpr c6
   (first | rw [c6b0] | (simp only [i64_w, i32_w]; rw [c6b0]) | skip)
   have H' := Aside0.mk H
   clear H
   go_wp2
   go_meet
   case rel => exact ⟨_, (false), (by first | rfl | (simp; done) | (simp [*]; done)), H', ⟨by first | omega | exact Nat.le_refl _⟩, by repeat (first | exact Drawn0.refl _ | apply Drawn0.step)⟩
 case rest =>
  clear HC5
  try clear p2
  try clear c3
  try clear c6
  try clear c6b0
  try clear c6b1
  obtain ⟨kq, x12_4, rfl, HA, HJ4, ⟨mc4, rfl⟩⟩ := hcut
  cases kq with
  | zero => exact absurd HA.out (by simp [word_Alu.j0])
  | succ kj4 =>
   have H := HA.out
   clear HA
   simp only [word_Alu.j0] at H
   by_cases c7 : x12_4 = true
   ·subst c7
    have H1 : (if 0 ≤ (Int.tmod a3 64) then (some (IntKind.u64.wrap (shr .i64 (wrap64 (a2)) (Int.tmod a3 64)), true)) else (none)) = some (r1, r2) := by rw [if_pos rfl] at H; exact H
    clear H
    have H := H1
    clear H1
    obtain ⟨ji8, hji8⟩ : ∃ j_ : Int, (Int.tmod a3 64) = j_ := ⟨_, rfl⟩
    replace H : (if 0 ≤ (ji8) then (some (IntKind.u64.wrap (shr .i64 (wrap64 (a2)) (ji8)), true)) else (none)) = some (r1, r2) := by first | (rw [hji8] at H; exact H) | (simp only [hji8] at H ⊢; exact H)
    by_cases c9 : 0 ≤ (ji8)
    ·rw [if_pos c9] at H
     have c9b0 := eq_true c9
     have c9b1 : decide (0 ≤ (ji8)) = true := decide_eq_true c9
     clear c9
     obtain ⟨ji10, hji10⟩ : ∃ j_ : Int, (shr .i64 (wrap64 (a2)) (ji8)) = j_ := ⟨_, rfl⟩
     replace H : (some (IntKind.u64.wrap (ji10), true)) = some (r1, r2) := by first | (rw [hji10] at H; exact H) | (simp only [hji10] at H ⊢; exact H)
     have hji10_ : ((wrap64 (a2)) / 2 ^ min (ji8).toNat 64) = ji10 := hji10
     have hji10z : (ji8) ≤ 64 → ((wrap64 (a2)) / 2 ^ (ji8).toNat) = ji10 := shr_small hji10
     simp only [Option.some.injEq, Prod.mk.injEq] at H
     obtain ⟨rfl, rfl⟩ := H
     go_wp2
     go_ret2
     exact ⟨by first | rfl | (simp; done) | (simp only [← hji8, ← hji10] <;> (first | rfl | simp)) | (simp [*]; done), by repeat (first | exact Drawn0.refl _ | apply Drawn0.step)⟩
    ·rw [if_neg c9] at H
     exact absurd H (by simp)
   ·replace c7 := Bool.eq_false_iff.mpr c7
    subst c7
    have H1 : (if a0 = 12 then (if 0 ≤ (Int.tmod a3 32) then (some ((shr .i32 (wrap32 ((a2) % 4294967296)) (Int.tmod a3 32)) % 4294967296, true)) else (none)) else (if a1 = true then ((word_pure_uint64.f a0 a2 a3 64).bind fun bt126 => (some (bt126.1, bt126.2))) else ((word_pure_uint32.f a0 ((a2) % 4294967296) ((a3) % 4294967296) 32).bind fun bt128 => (some (IntKind.u64.wrap (bt128.1), bt128.2))))) = some (r1, r2) := by rw [if_neg (show ¬ (false = true) by decide)] at H; exact H
    clear H
    have H := H1
    clear H1
    by_cases c11 : a0 = 12
    ·rw [if_pos c11] at H
     have c11b0 : (a0 == 12) = true := beq_iff_eq.mpr c11
     have c11b1 : (a0 != 12) = false := bne_eq_false_iff_eq.mpr c11
     clear c11
     obtain ⟨ji12, hji12⟩ : ∃ j_ : Int, (Int.tmod a3 32) = j_ := ⟨_, rfl⟩
     replace H : (if 0 ≤ (ji12) then (some ((shr .i32 (wrap32 ((a2) % 4294967296)) (ji12)) % 4294967296, true)) else (none)) = some (r1, r2) := by first | (rw [hji12] at H; exact H) | (simp only [hji12] at H ⊢; exact H)
     by_cases c13 : 0 ≤ (ji12)
     ·rw [if_pos c13] at H
      have c13b0 := eq_true c13
      have c13b1 : decide (0 ≤ (ji12)) = true := decide_eq_true c13
      clear c13
      obtain ⟨ji14, hji14⟩ : ∃ j_ : Int, (shr .i32 (wrap32 ((a2) % 4294967296)) (ji12)) = j_ := ⟨_, rfl⟩
      replace H : (some ((ji14) % 4294967296, true)) = some (r1, r2) := by first | (rw [hji14] at H; exact H) | (simp only [hji14] at H ⊢; exact H)
      have hji14_ : ((wrap32 ((a2) % 4294967296)) / 2 ^ min (ji12).toNat 32) = ji14 := hji14
      have hji14z : (ji12) ≤ 32 → ((wrap32 ((a2) % 4294967296)) / 2 ^ (ji12).toNat) = ji14 := shr_small hji14
      simp only [Option.some.injEq, Prod.mk.injEq] at H
      obtain ⟨rfl, rfl⟩ := H
      go_wp2
      go_ret2
      exact ⟨by first | rfl | (simp; done) | (simp only [← hji12, ← hji14] <;> (first | rfl | simp)) | (simp [*]; done), by repeat (first | exact Drawn0.refl _ | apply Drawn0.step)⟩
     ·rw [if_neg c13] at H
      exact absurd H (by simp)
    ·rw [if_neg c11] at H
     have c11b0 : (a0 == 12) = false := beq_eq_false_iff_ne.mpr c11
     have c11b1 : (a0 != 12) = true := bne_iff_ne.mpr c11
     by_cases c15 : a1 = true
     ·subst c15
      have H1 : ((word_pure_uint64.f a0 a2 a3 64).bind fun bt126 => (some (bt126.1, bt126.2))) = some (r1, r2) := by rw [if_pos rfl] at H; exact H
      clear H
      have H := H1
      clear H1
      replace H := Option.bind_eq_some_iff.mp H
      obtain ⟨⟨t126, t127⟩, A160, H⟩ := H
      replace H : (some (t126, t127)) = some (r1, r2) := H
      have A16 := Aside0.mk A160
      clear A160
      simp only [Option.some.injEq, Prod.mk.injEq] at H
      obtain ⟨rfl, rfl⟩ := H
      go_wp2_with (first | ((with_reducible refine gate_callee (f := 90) rfl ?_); refine gM_ 40 Tryz.func90 (word_pure_uint64.calls a0 a2 a3 64 t126 t127 _ A16.out) ?_; rintro w' ⟨nd, rfl⟩))
      go_ret2
      exact ⟨by first | rfl | (simp; done) | (simp [*]; done), by repeat (first | exact Drawn0.refl _ | apply Drawn0.step)⟩
     ·replace c15 := Bool.eq_false_iff.mpr c15
      subst c15
      have H1 : ((word_pure_uint32.f a0 ((a2) % 4294967296) ((a3) % 4294967296) 32).bind fun bt128 => (some (IntKind.u64.wrap (bt128.1), bt128.2))) = some (r1, r2) := by rw [if_neg (show ¬ (false = true) by decide)] at H; exact H
      clear H
      have H := H1
      clear H1
      replace H := Option.bind_eq_some_iff.mp H
      obtain ⟨⟨t128, t129⟩, A170, H⟩ := H
      replace H : (some (IntKind.u64.wrap (t128), t129)) = some (r1, r2) := H
      have A17 := Aside0.mk A170
      clear A170
      simp only [Option.some.injEq, Prod.mk.injEq] at H
      obtain ⟨rfl, rfl⟩ := H
      go_wp2_with (first | ((with_reducible refine gate_callee (f := 91) rfl ?_); refine gM_ 49 Tryz.func91 (word_pure_uint32.calls a0 ((a2) % 4294967296) ((a3) % 4294967296) 32 t128 t129 _ A17.out) ?_; rintro w' ⟨nd, rfl⟩))
      go_ret2
      exact ⟨by first | rfl | (simp; done) | (simp [*]; done), by repeat (first | exact Drawn0.refl _ | apply Drawn0.step)⟩

/-! ### lockgateref01_Low: function 115 -/
def lockgateref01_Low.f (a0 : Int) (a1 : Int) : Option (Int) := if a1 ≥ 64 then (some a0) else (if 0 ≤ (IntKind.u64.wrap (a1)) then (if (shl .u64 1 (IntKind.u64.wrap (a1))) = 0 then (none) else (some (Int.tmod a0 (shl .u64 1 (IntKind.u64.wrap (a1)))))) else (none))
set_option maxHeartbeats 8000000 in
set_option maxRecDepth 100000 in
theorem lockgateref01_Low.calls (a0 : Int) (a1 : Int) (r : Int) (w : World) (h : lockgateref01_Low.f a0 a1 = some r) :
 Calls Tryz.prog 115 #[.int .u64 a0, .int .i64 a1] w fun e w' => e = .returned (.int .u64 r) ∧ Drawn0 w w' := by
 have H : (if a1 ≥ 64 then (some a0) else (if 0 ≤ (IntKind.u64.wrap (a1)) then (if (shl .u64 1 (IntKind.u64.wrap (a1))) = 0 then (none) else (some (Int.tmod a0 (shl .u64 1 (IntKind.u64.wrap (a1)))))) else (none))) = some r := h
 clear h
 by_cases c3 : a1 ≥ 64
 ·rw [if_pos c3] at H
  have c3b0 : decide (64 ≤ a1) = true := decide_eq_true c3
  clear c3
  obtain rfl := Option.some.inj H
  go_enter Tryz.func115, Tryz.ntmps115
  go_wp2
  go_ret
  exact ⟨by first | rfl | (simp; done) | (simp [*]; done), by repeat (first | exact Drawn0.refl _ | apply Drawn0.step)⟩
 ·rw [if_neg c3] at H
  have c3b0 : decide (64 ≤ a1) = false := decide_eq_false c3
  clear c3
  obtain ⟨ji4, hji4⟩ : ∃ j_ : Int, (IntKind.u64.wrap (a1)) = j_ := ⟨_, rfl⟩
  replace H : (if 0 ≤ (ji4) then (if (shl .u64 1 (ji4)) = 0 then (none) else (some (Int.tmod a0 (shl .u64 1 (ji4))))) else (none)) = some r := by first | (rw [hji4] at H; exact H) | (simp only [hji4] at H ⊢; exact H)
  by_cases c5 : 0 ≤ (ji4)
  ·rw [if_pos c5] at H
   have c5b0 := eq_true c5
   have c5b1 : decide (0 ≤ (ji4)) = true := decide_eq_true c5
   clear c5
   obtain ⟨ji6, hji6⟩ : ∃ j_ : Int, (shl .u64 1 (ji4)) = j_ := ⟨_, rfl⟩
   replace H : (if (ji6) = 0 then (none) else (some (Int.tmod a0 (ji6)))) = some r := by first | (rw [hji6] at H; exact H) | (simp only [hji6] at H ⊢; exact H)
   have hji6_ : (IntKind.u64.wrap (1 * 2 ^ min (ji4).toNat 64)) = ji6 := hji6
   have hji6z : (ji4) ≤ 64 → (IntKind.u64.wrap (1 * 2 ^ (ji4).toNat)) = ji6 := shl_small hji6
   have hji6u : (IntKind.u64.wrap (2 ^ min (ji4).toNat 64)) = ji6 := by have h_ := hji6_; rw [Int.one_mul] at h_; exact h_
   have hji6v : (ji4) ≤ 64 → (IntKind.u64.wrap (2 ^ (ji4).toNat)) = ji6 := fun hle_ => by have h_ := hji6z hle_; rw [Int.one_mul] at h_; exact h_
   by_cases c7 : (ji6) = 0
   ·rw [if_pos c7] at H
    exact absurd H (by simp)
   ·rw [if_neg c7] at H
    have c7b0 : ((ji6) == 0) = false := beq_eq_false_iff_ne.mpr c7
    have c7b1 : ((ji6) != 0) = true := bne_iff_ne.mpr c7
    obtain rfl := Option.some.inj H
    go_enter Tryz.func115, Tryz.ntmps115
    go_wp2
    go_ret
    exact ⟨by first | rfl | (simp; done) | (simp only [← hji4, ← hji6] <;> (first | rfl | simp)) | (simp [*]; done), by repeat (first | exact Drawn0.refl _ | apply Drawn0.step)⟩
  ·rw [if_neg c5] at H
   exact absurd H (by simp)

/-! ### lockgateref01_bit: function 122 -/
def lockgateref01_bit.f (a0 : Int) (a1 : Int) : Option (Int) := if 0 ≤ (IntKind.u64.wrap (a1)) then (some (Int.tmod (shr .u64 a0 (IntKind.u64.wrap (a1))) 2)) else (none)
set_option maxHeartbeats 8000000 in
set_option maxRecDepth 100000 in
theorem lockgateref01_bit.calls (a0 : Int) (a1 : Int) (r : Int) (w : World) (h : lockgateref01_bit.f a0 a1 = some r) :
 Calls Tryz.prog 122 #[.int .u64 a0, .int .i64 a1] w fun e w' => e = .returned (.int .u64 r) ∧ Drawn0 w w' := by
 have H : (if 0 ≤ (IntKind.u64.wrap (a1)) then (some (Int.tmod (shr .u64 a0 (IntKind.u64.wrap (a1))) 2)) else (none)) = some r := h
 clear h
 obtain ⟨ji3, hji3⟩ : ∃ j_ : Int, (IntKind.u64.wrap (a1)) = j_ := ⟨_, rfl⟩
 replace H : (if 0 ≤ (ji3) then (some (Int.tmod (shr .u64 a0 (ji3)) 2)) else (none)) = some r := by first | (rw [hji3] at H; exact H) | (simp only [hji3] at H ⊢; exact H)
 by_cases c4 : 0 ≤ (ji3)
 ·rw [if_pos c4] at H
  have c4b0 := eq_true c4
  have c4b1 : decide (0 ≤ (ji3)) = true := decide_eq_true c4
  clear c4
  obtain ⟨ji5, hji5⟩ : ∃ j_ : Int, (shr .u64 a0 (ji3)) = j_ := ⟨_, rfl⟩
  replace H : (some (Int.tmod (ji5) 2)) = some r := by first | (rw [hji5] at H; exact H) | (simp only [hji5] at H ⊢; exact H)
  have hji5_ : (a0 / 2 ^ min (ji3).toNat 64) = ji5 := hji5
  have hji5z : (ji3) ≤ 64 → (a0 / 2 ^ (ji3).toNat) = ji5 := shr_small hji5
  obtain rfl := Option.some.inj H
  go_enter Tryz.func122, Tryz.ntmps122
  go_wp2
  go_ret
  exact ⟨by first | rfl | (simp; done) | (simp only [← hji3, ← hji5] <;> (first | rfl | simp)) | (simp [*]; done), by repeat (first | exact Drawn0.refl _ | apply Drawn0.step)⟩
 ·rw [if_neg c4] at H
  exact absurd H (by simp)

/-! ### lockgateref01_add: function 116 -/
def lockgateref01_add.l0 : Nat → Int → Int → Int → Int → Int → Option (Int)
 | 0, _, _, _, _, _ => none
 | k + 1, x0, x1, x2, x7, x8 => if x8 < 64 then ((lockgateref01_bit.f x0 x8).bind fun t361 => ((lockgateref01_bit.f x1 x8).bind fun t362 => (if 0 ≤ (IntKind.u64.wrap (x8)) then (lockgateref01_add.l0 k x0 x1 (IntKind.u64.wrap (Int.tdiv (IntKind.u64.wrap ((IntKind.u64.wrap (t361 + t362)) + x2)) 2)) (Go.bits .or .u64 x7 (shl .u64 (Int.tmod (IntKind.u64.wrap ((IntKind.u64.wrap (t361 + t362)) + x2)) 2) (IntKind.u64.wrap (x8)))) (wrap64 (x8 + 1))) else (none)))) else (some x7)
def lockgateref01_add.f (k : Nat) (a0 : Int) (a1 : Int) (a2 : Int) : Option (Int) := lockgateref01_add.l0 k a0 a1 a2 0 0
theorem lockgateref01_add.mono_l : ∀ k, (∀ y0 y1 y2 y3 y4, LeO (lockgateref01_add.l0 k y0 y1 y2 y3 y4) (lockgateref01_add.l0 (k + 1) y0 y1 y2 y3 y4))
 | 0 => fun _ _ _ _ _ r h => by simp [lockgateref01_add.l0] at h
 | k + 1 => by
  have ih0 := lockgateref01_add.mono_l k
  ·intro y0 y1 y2 y3 y4
   unfold lockgateref01_add.l0
   repeat' first
   | (with_reducible exact ih0 _ _ _ _ _)
   | (with_reducible exact LeO.refl _)
   | (with_reducible exact LeO.none _)
   | (with_reducible refine LeO.ite ?_ ?_)
   | (with_reducible refine LeO.bind ?_ (fun _ => ?_))
   | exact ih0 _ _ _ _ _
   | exact LeO.none _
   | refine LeO.ite ?_ ?_
   | refine LeO.bind ?_ (fun _ => ?_)
theorem lockgateref01_add.mono : ∀ a0 a1 a2 k, LeO (lockgateref01_add.f k a0 a1 a2) (lockgateref01_add.f (k + 1) a0 a1 a2) := by
 intro a0 a1 a2 k
 have ih0 := lockgateref01_add.mono_l k
 unfold lockgateref01_add.f
 repeat' first
  | (with_reducible exact ih0 _ _ _ _ _)
  | (with_reducible exact LeO.refl _)
  | (with_reducible exact LeO.none _)
  | (with_reducible refine LeO.ite ?_ ?_)
  | (with_reducible refine LeO.bind ?_ (fun _ => ?_))
  | exact ih0 _ _ _ _ _
  | exact LeO.none _
  | refine LeO.ite ?_ ?_
  | refine LeO.bind ?_ (fun _ => ?_)
set_option maxHeartbeats 8000000 in
set_option maxRecDepth 100000 in
theorem lockgateref01_add.calls (k : Nat) (a0 : Int) (a1 : Int) (a2 : Int) (r : Int) (w : World) (h : lockgateref01_add.f k a0 a1 a2 = some r) :
 Calls Tryz.prog 116 #[.int .u64 a0, .int .u64 a1, .int .u64 a2] w fun e w' => e = .returned (.int .u64 r) ∧ Drawn0 w w' := by
 have H : (lockgateref01_add.l0 k a0 a1 a2 0 0) = some r := h
 clear h
 have H' := Aside0.mk H
 clear H
 go_enter Tryz.func116, Tryz.ntmps116
 go_wp2
 go_loopg [2, 7, 8] k (fun kq v2 v7 v8 w' => ∃ (x2_1 : Int) (x7_1 : Int) (x8_1 : Int), v2 = .int .u64 x2_1 ∧ v7 = .int .u64 x7_1 ∧ v8 = .int .i64 x8_1 ∧ Aside0 (lockgateref01_add.l0 kq a0 a1 x2_1 x7_1 x8_1 = some r) ∧ Aside0 (kq ≤ k) ∧ Drawn0 w w')
 case atStart => exact ⟨(a2), (0), (0), (by first | rfl | (simp; done) | (simp [*]; done)), (by first | rfl | (simp; done) | (simp [*]; done)), (by first | rfl | (simp; done) | (simp [*]; done)), H', ⟨Nat.le_refl _⟩, by repeat (first | exact Drawn0.refl _ | apply Drawn0.step)⟩
 case round =>
  clear H'
  try clear c1
  try clear p2
  obtain ⟨x2_1, x7_1, x8_1, rfl, rfl, rfl, HA, HK1, ⟨m1, rfl⟩⟩ := hrel
  cases gk with
  | zero => exact absurd HA.out (by simp [lockgateref01_add.l0])
  | succ k1 =>
   have H := HA.out
   clear HA
   simp only [lockgateref01_add.l0] at H
   by_cases c4 : x8_1 < 64
   ·rw [if_pos c4] at H
    have c4b0 : decide (x8_1 < 64) = true := decide_eq_true c4
    clear c4
    replace H := Option.bind_eq_some_iff.mp H
    obtain ⟨t361, A50, H⟩ := H
    replace H : ((lockgateref01_bit.f a1 x8_1).bind fun t362 => (if 0 ≤ (IntKind.u64.wrap (x8_1)) then (lockgateref01_add.l0 k1 a0 a1 (IntKind.u64.wrap (Int.tdiv (IntKind.u64.wrap ((IntKind.u64.wrap (t361 + t362)) + x2_1)) 2)) (Go.bits .or .u64 x7_1 (shl .u64 (Int.tmod (IntKind.u64.wrap ((IntKind.u64.wrap (t361 + t362)) + x2_1)) 2) (IntKind.u64.wrap (x8_1)))) (wrap64 (x8_1 + 1))) else (none))) = some r := H
    have A5 := Aside0.mk A50
    clear A50
    replace H := Option.bind_eq_some_iff.mp H
    obtain ⟨t362, A60, H⟩ := H
    replace H : (if 0 ≤ (IntKind.u64.wrap (x8_1)) then (lockgateref01_add.l0 k1 a0 a1 (IntKind.u64.wrap (Int.tdiv (IntKind.u64.wrap ((IntKind.u64.wrap (t361 + t362)) + x2_1)) 2)) (Go.bits .or .u64 x7_1 (shl .u64 (Int.tmod (IntKind.u64.wrap ((IntKind.u64.wrap (t361 + t362)) + x2_1)) 2) (IntKind.u64.wrap (x8_1)))) (wrap64 (x8_1 + 1))) else (none)) = some r := H
    have A6 := Aside0.mk A60
    clear A60
    obtain ⟨ji7, hji7⟩ : ∃ j_ : Int, (IntKind.u64.wrap (x8_1)) = j_ := ⟨_, rfl⟩
    replace H : (if 0 ≤ (ji7) then (lockgateref01_add.l0 k1 a0 a1 (IntKind.u64.wrap (Int.tdiv (IntKind.u64.wrap ((IntKind.u64.wrap (t361 + t362)) + x2_1)) 2)) (Go.bits .or .u64 x7_1 (shl .u64 (Int.tmod (IntKind.u64.wrap ((IntKind.u64.wrap (t361 + t362)) + x2_1)) 2) (ji7))) (wrap64 (x8_1 + 1))) else (none)) = some r := by first | (rw [hji7] at H; exact H) | (simp only [hji7] at H ⊢; exact H)
    (try rw [hji7] at A5)
    (try rw [hji7] at A6)
    by_cases c8 : 0 ≤ (ji7)
    ·rw [if_pos c8] at H
     have c8b0 := eq_true c8
     have c8b1 : decide (0 ≤ (ji7)) = true := decide_eq_true c8
     clear c8
     obtain ⟨ji9, hji9⟩ : ∃ j_ : Int, (shl .u64 (Int.tmod (IntKind.u64.wrap ((IntKind.u64.wrap (t361 + t362)) + x2_1)) 2) (ji7)) = j_ := ⟨_, rfl⟩
     replace H : (lockgateref01_add.l0 k1 a0 a1 (IntKind.u64.wrap (Int.tdiv (IntKind.u64.wrap ((IntKind.u64.wrap (t361 + t362)) + x2_1)) 2)) (Go.bits .or .u64 x7_1 (ji9)) (wrap64 (x8_1 + 1))) = some r := by first | (rw [hji9] at H; exact H) | (simp only [hji9] at H ⊢; exact H)
     (try rw [hji9] at A5)
     (try rw [hji9] at A6)
     have hji9_ : (IntKind.u64.wrap ((Int.tmod (IntKind.u64.wrap ((IntKind.u64.wrap (t361 + t362)) + x2_1)) 2) * 2 ^ min (ji7).toNat 64)) = ji9 := hji9
     have hji9z : (ji7) ≤ 64 → (IntKind.u64.wrap ((Int.tmod (IntKind.u64.wrap ((IntKind.u64.wrap (t361 + t362)) + x2_1)) 2) * 2 ^ (ji7).toNat)) = ji9 := shl_small hji9
     have H' := Aside0.mk H
     clear H
     go_wp2_with (first | ((with_reducible refine gate_callee (f := 122) rfl ?_); refine gM_ 16 Tryz.func122 (lockgateref01_bit.calls a0 x8_1 t361 _ A5.out) ?_; rintro w' ⟨nd, rfl⟩) | ((with_reducible refine gate_callee (f := 122) rfl ?_); refine gM_ 19 Tryz.func122 (lockgateref01_bit.calls a1 x8_1 t362 _ A6.out) ?_; rintro w' ⟨nd, rfl⟩))
     go_roundg k1
     case measure => have := HK1.out; omega
     case rel => exact ⟨(IntKind.u64.wrap (Int.tdiv (IntKind.u64.wrap ((IntKind.u64.wrap (t361 + t362)) + x2_1)) 2)), (Go.bits .or .u64 x7_1 (ji9)), (wrap64 (x8_1 + 1)), (by first | rfl | (simp; done) | (simp [*]; done)), (by first | rfl | (simp; done) | (simp only [← hji9] <;> (first | rfl | simp)) | (simp [*]; done)), (by first | rfl | (simp; done) | (simp [*]; done)), H', ⟨by have := HK1.out; omega⟩, by repeat (first | exact Drawn0.refl _ | apply Drawn0.step)⟩
    ·rw [if_neg c8] at H
     exact absurd H (by simp)
   ·rw [if_neg c4] at H
    have c4b0 : decide (x8_1 < 64) = false := decide_eq_false c4
    clear c4
    obtain rfl := Option.some.inj H
    go_wp2
    go_ret
    exact ⟨by first | rfl | (simp; done) | (simp [*]; done), by repeat (first | exact Drawn0.refl _ | apply Drawn0.step)⟩

/-! ### lockgateref01_not: function 117 -/
def lockgateref01_not.l0 : Nat → Int → Int → Int → Option (Int)
 | 0, _, _, _ => none
 | k + 1, x0, x3, x4 => if x4 < 64 then ((lockgateref01_bit.f x0 x4).bind fun t363 => (if 0 ≤ (IntKind.u64.wrap (x4)) then (lockgateref01_not.l0 k x0 (Go.bits .or .u64 x3 (shl .u64 (IntKind.u64.wrap (1 - t363)) (IntKind.u64.wrap (x4)))) (wrap64 (x4 + 1))) else (none))) else (some x3)
def lockgateref01_not.f (k : Nat) (a0 : Int) : Option (Int) := lockgateref01_not.l0 k a0 0 0
theorem lockgateref01_not.mono_l : ∀ k, (∀ y0 y1 y2, LeO (lockgateref01_not.l0 k y0 y1 y2) (lockgateref01_not.l0 (k + 1) y0 y1 y2))
 | 0 => fun _ _ _ r h => by simp [lockgateref01_not.l0] at h
 | k + 1 => by
  have ih0 := lockgateref01_not.mono_l k
  ·intro y0 y1 y2
   unfold lockgateref01_not.l0
   repeat' first
   | (with_reducible exact ih0 _ _ _)
   | (with_reducible exact LeO.refl _)
   | (with_reducible exact LeO.none _)
   | (with_reducible refine LeO.ite ?_ ?_)
   | (with_reducible refine LeO.bind ?_ (fun _ => ?_))
   | exact ih0 _ _ _
   | exact LeO.none _
   | refine LeO.ite ?_ ?_
   | refine LeO.bind ?_ (fun _ => ?_)
theorem lockgateref01_not.mono : ∀ a0 k, LeO (lockgateref01_not.f k a0) (lockgateref01_not.f (k + 1) a0) := by
 intro a0 k
 have ih0 := lockgateref01_not.mono_l k
 unfold lockgateref01_not.f
 repeat' first
  | (with_reducible exact ih0 _ _ _)
  | (with_reducible exact LeO.refl _)
  | (with_reducible exact LeO.none _)
  | (with_reducible refine LeO.ite ?_ ?_)
  | (with_reducible refine LeO.bind ?_ (fun _ => ?_))
  | exact ih0 _ _ _
  | exact LeO.none _
  | refine LeO.ite ?_ ?_
  | refine LeO.bind ?_ (fun _ => ?_)
set_option maxHeartbeats 8000000 in
set_option maxRecDepth 100000 in
theorem lockgateref01_not.calls (k : Nat) (a0 : Int) (r : Int) (w : World) (h : lockgateref01_not.f k a0 = some r) :
 Calls Tryz.prog 117 #[.int .u64 a0] w fun e w' => e = .returned (.int .u64 r) ∧ Drawn0 w w' := by
 have H : (lockgateref01_not.l0 k a0 0 0) = some r := h
 clear h
 have H' := Aside0.mk H
 clear H
 go_enter Tryz.func117, Tryz.ntmps117
 go_wp2
 go_loopg [3, 4] k (fun kq v3 v4 w' => ∃ (x3_1 : Int) (x4_1 : Int), v3 = .int .u64 x3_1 ∧ v4 = .int .i64 x4_1 ∧ Aside0 (lockgateref01_not.l0 kq a0 x3_1 x4_1 = some r) ∧ Aside0 (kq ≤ k) ∧ Drawn0 w w')
 case atStart => exact ⟨(0), (0), (by first | rfl | (simp; done) | (simp [*]; done)), (by first | rfl | (simp; done) | (simp [*]; done)), H', ⟨Nat.le_refl _⟩, by repeat (first | exact Drawn0.refl _ | apply Drawn0.step)⟩
 case round =>
  clear H'
  try clear c1
  obtain ⟨x3_1, x4_1, rfl, rfl, HA, HK1, ⟨m1, rfl⟩⟩ := hrel
  cases gk with
  | zero => exact absurd HA.out (by simp [lockgateref01_not.l0])
  | succ k1 =>
   have H := HA.out
   clear HA
   simp only [lockgateref01_not.l0] at H
   by_cases c2 : x4_1 < 64
   ·rw [if_pos c2] at H
    have c2b0 : decide (x4_1 < 64) = true := decide_eq_true c2
    clear c2
    replace H := Option.bind_eq_some_iff.mp H
    obtain ⟨t363, A30, H⟩ := H
    replace H : (if 0 ≤ (IntKind.u64.wrap (x4_1)) then (lockgateref01_not.l0 k1 a0 (Go.bits .or .u64 x3_1 (shl .u64 (IntKind.u64.wrap (1 - t363)) (IntKind.u64.wrap (x4_1)))) (wrap64 (x4_1 + 1))) else (none)) = some r := H
    have A3 := Aside0.mk A30
    clear A30
    obtain ⟨ji4, hji4⟩ : ∃ j_ : Int, (IntKind.u64.wrap (x4_1)) = j_ := ⟨_, rfl⟩
    replace H : (if 0 ≤ (ji4) then (lockgateref01_not.l0 k1 a0 (Go.bits .or .u64 x3_1 (shl .u64 (IntKind.u64.wrap (1 - t363)) (ji4))) (wrap64 (x4_1 + 1))) else (none)) = some r := by first | (rw [hji4] at H; exact H) | (simp only [hji4] at H ⊢; exact H)
    (try rw [hji4] at A3)
    by_cases c5 : 0 ≤ (ji4)
    ·rw [if_pos c5] at H
     have c5b0 := eq_true c5
     have c5b1 : decide (0 ≤ (ji4)) = true := decide_eq_true c5
     clear c5
     obtain ⟨ji6, hji6⟩ : ∃ j_ : Int, (shl .u64 (IntKind.u64.wrap (1 - t363)) (ji4)) = j_ := ⟨_, rfl⟩
     replace H : (lockgateref01_not.l0 k1 a0 (Go.bits .or .u64 x3_1 (ji6)) (wrap64 (x4_1 + 1))) = some r := by first | (rw [hji6] at H; exact H) | (simp only [hji6] at H ⊢; exact H)
     (try rw [hji6] at A3)
     have hji6_ : (IntKind.u64.wrap ((IntKind.u64.wrap (1 - t363)) * 2 ^ min (ji4).toNat 64)) = ji6 := hji6
     have hji6z : (ji4) ≤ 64 → (IntKind.u64.wrap ((IntKind.u64.wrap (1 - t363)) * 2 ^ (ji4).toNat)) = ji6 := shl_small hji6
     have H' := Aside0.mk H
     clear H
     go_wp2_with (first | ((with_reducible refine gate_callee (f := 122) rfl ?_); refine gM_ 12 Tryz.func122 (lockgateref01_bit.calls a0 x4_1 t363 _ A3.out) ?_; rintro w' ⟨nd, rfl⟩))
     go_roundg k1
     case measure => have := HK1.out; omega
     case rel => exact ⟨(Go.bits .or .u64 x3_1 (ji6)), (wrap64 (x4_1 + 1)), (by first | rfl | (simp; done) | (simp only [← hji6] <;> (first | rfl | simp)) | (simp [*]; done)), (by first | rfl | (simp; done) | (simp [*]; done)), H', ⟨by have := HK1.out; omega⟩, by repeat (first | exact Drawn0.refl _ | apply Drawn0.step)⟩
    ·rw [if_neg c5] at H
     exact absurd H (by simp)
   ·rw [if_neg c2] at H
    have c2b0 : decide (x4_1 < 64) = false := decide_eq_false c2
    clear c2
    obtain rfl := Option.some.inj H
    go_wp2
    go_ret
    exact ⟨by first | rfl | (simp; done) | (simp [*]; done), by repeat (first | exact Drawn0.refl _ | apply Drawn0.step)⟩

/-! ### lockgateref01_times: function 118 -/
def lockgateref01_times.l0 : Nat → Int → Int → Int → Int → Option (Int)
 | 0, _, _, _, _ => none
 | k + 1, x0, x1, x5, x6 => if x6 < 64 then ((lockgateref01_bit.f x0 x6).bind fun t364 => (if t364 = 1 then (if 0 ≤ (IntKind.u64.wrap (x6)) then ((lockgateref01_add.f k x5 (shl .u64 x1 (IntKind.u64.wrap (x6))) 0).bind fun t365 => (lockgateref01_times.l0 k x0 x1 t365 (wrap64 (x6 + 1)))) else (none)) else (lockgateref01_times.l0 k x0 x1 x5 (wrap64 (x6 + 1))))) else (some x5)
def lockgateref01_times.f (k : Nat) (a0 : Int) (a1 : Int) : Option (Int) := lockgateref01_times.l0 k a0 a1 0 0
theorem lockgateref01_times.mono_l : ∀ k, (∀ y0 y1 y2 y3, LeO (lockgateref01_times.l0 k y0 y1 y2 y3) (lockgateref01_times.l0 (k + 1) y0 y1 y2 y3))
 | 0 => fun _ _ _ _ r h => by simp [lockgateref01_times.l0] at h
 | k + 1 => by
  have ih0 := lockgateref01_times.mono_l k
  ·intro y0 y1 y2 y3
   unfold lockgateref01_times.l0
   repeat' first
   | (with_reducible exact ih0 _ _ _ _)
   | (with_reducible exact lockgateref01_add.mono _ _ _ _)
   | (with_reducible exact LeO.refl _)
   | (with_reducible exact LeO.none _)
   | (with_reducible refine LeO.ite ?_ ?_)
   | (with_reducible refine LeO.bind ?_ (fun _ => ?_))
   | exact ih0 _ _ _ _
   | exact lockgateref01_add.mono _ _ _ _
   | exact LeO.none _
   | refine LeO.ite ?_ ?_
   | refine LeO.bind ?_ (fun _ => ?_)
theorem lockgateref01_times.mono : ∀ a0 a1 k, LeO (lockgateref01_times.f k a0 a1) (lockgateref01_times.f (k + 1) a0 a1) := by
 intro a0 a1 k
 have ih0 := lockgateref01_times.mono_l k
 unfold lockgateref01_times.f
 repeat' first
  | (with_reducible exact ih0 _ _ _ _)
  | (with_reducible exact lockgateref01_add.mono _ _ _ _)
  | (with_reducible exact LeO.refl _)
  | (with_reducible exact LeO.none _)
  | (with_reducible refine LeO.ite ?_ ?_)
  | (with_reducible refine LeO.bind ?_ (fun _ => ?_))
  | exact ih0 _ _ _ _
  | exact lockgateref01_add.mono _ _ _ _
  | exact LeO.none _
  | refine LeO.ite ?_ ?_
  | refine LeO.bind ?_ (fun _ => ?_)
set_option maxHeartbeats 8000000 in
set_option maxRecDepth 100000 in
theorem lockgateref01_times.calls (k : Nat) (a0 : Int) (a1 : Int) (r : Int) (w : World) (h : lockgateref01_times.f k a0 a1 = some r) :
 Calls Tryz.prog 118 #[.int .u64 a0, .int .u64 a1] w fun e w' => e = .returned (.int .u64 r) ∧ Drawn0 w w' := by
 have H : (lockgateref01_times.l0 k a0 a1 0 0) = some r := h
 clear h
 have H' := Aside0.mk H
 clear H
 go_enter Tryz.func118, Tryz.ntmps118
 go_wp2
 go_loopg [5, 6] k (fun kq v5 v6 w' => ∃ (x5_1 : Int) (x6_1 : Int), v5 = .int .u64 x5_1 ∧ v6 = .int .i64 x6_1 ∧ Aside0 (lockgateref01_times.l0 kq a0 a1 x5_1 x6_1 = some r) ∧ Aside0 (kq ≤ k) ∧ Drawn0 w w')
 case atStart => exact ⟨(0), (0), (by first | rfl | (simp; done) | (simp [*]; done)), (by first | rfl | (simp; done) | (simp [*]; done)), H', ⟨Nat.le_refl _⟩, by repeat (first | exact Drawn0.refl _ | apply Drawn0.step)⟩
 case round =>
  clear H'
  try clear c1
  try clear p2
  obtain ⟨x5_1, x6_1, rfl, rfl, HA, HK1, ⟨m1, rfl⟩⟩ := hrel
  cases gk with
  | zero => exact absurd HA.out (by simp [lockgateref01_times.l0])
  | succ k1 =>
   have H := HA.out
   clear HA
   simp only [lockgateref01_times.l0] at H
   by_cases c3 : x6_1 < 64
   ·rw [if_pos c3] at H
    have c3b0 : decide (x6_1 < 64) = true := decide_eq_true c3
    clear c3
    replace H := Option.bind_eq_some_iff.mp H
    obtain ⟨t364, A40, H⟩ := H
    replace H : (if t364 = 1 then (if 0 ≤ (IntKind.u64.wrap (x6_1)) then ((lockgateref01_add.f k1 x5_1 (shl .u64 a1 (IntKind.u64.wrap (x6_1))) 0).bind fun t365 => (lockgateref01_times.l0 k1 a0 a1 t365 (wrap64 (x6_1 + 1)))) else (none)) else (lockgateref01_times.l0 k1 a0 a1 x5_1 (wrap64 (x6_1 + 1)))) = some r := H
    have A4 := Aside0.mk A40
    clear A40
    by_cases c5 : t364 = 1
    ·rw [if_pos c5] at H
     have c5b0 : (t364 == 1) = true := beq_iff_eq.mpr c5
     have c5b1 : (t364 != 1) = false := bne_eq_false_iff_eq.mpr c5
     clear c5
     obtain ⟨ji6, hji6⟩ : ∃ j_ : Int, (IntKind.u64.wrap (x6_1)) = j_ := ⟨_, rfl⟩
     replace H : (if 0 ≤ (ji6) then ((lockgateref01_add.f k1 x5_1 (shl .u64 a1 (ji6)) 0).bind fun t365 => (lockgateref01_times.l0 k1 a0 a1 t365 (wrap64 (x6_1 + 1)))) else (none)) = some r := by first | (rw [hji6] at H; exact H) | (simp only [hji6] at H ⊢; exact H)
     (try rw [hji6] at A4)
     by_cases c7 : 0 ≤ (ji6)
     ·rw [if_pos c7] at H
      have c7b0 := eq_true c7
      have c7b1 : decide (0 ≤ (ji6)) = true := decide_eq_true c7
      clear c7
      obtain ⟨ji8, hji8⟩ : ∃ j_ : Int, (shl .u64 a1 (ji6)) = j_ := ⟨_, rfl⟩
      replace H : ((lockgateref01_add.f k1 x5_1 (ji8) 0).bind fun t365 => (lockgateref01_times.l0 k1 a0 a1 t365 (wrap64 (x6_1 + 1)))) = some r := by first | (rw [hji8] at H; exact H) | (simp only [hji8] at H ⊢; exact H)
      (try rw [hji8] at A4)
      have hji8_ : (IntKind.u64.wrap (a1 * 2 ^ min (ji6).toNat 64)) = ji8 := hji8
      have hji8z : (ji6) ≤ 64 → (IntKind.u64.wrap (a1 * 2 ^ (ji6).toNat)) = ji8 := shl_small hji8
      replace H := Option.bind_eq_some_iff.mp H
      obtain ⟨t365, A90, H⟩ := H
      replace H : (lockgateref01_times.l0 k1 a0 a1 t365 (wrap64 (x6_1 + 1))) = some r := H
      have A9 := Aside0.mk A90
      clear A90
      have H' := Aside0.mk H
      clear H
      go_wp2_with (first | ((with_reducible refine gate_callee (f := 122) rfl ?_); refine gM_ 13 Tryz.func122 (lockgateref01_bit.calls a0 x6_1 t364 _ A4.out) ?_; rintro w' ⟨nd, rfl⟩) | ((with_reducible refine gate_callee (f := 116) rfl ?_); refine goesL_ (some 20) rfl rfl Tryz.func116 (by kernel_rfl) rfl #[.int .u64 x5_1, .int .u64 ji8, .int .u64 0] rfl (by (try simp only [List.map_toArray, List.map_cons, List.map_nil]); first | done | (simp only [hji8]; rfl) | rfl | (simp only [List.length_drop, List.length_take]; rfl)) ?_; (with_reducible refine (lockgateref01_add.calls k1 x5_1 ji8 0 t365 _ A9.out).mono ?_); rintro e w' ⟨rfl, ⟨nd, rfl⟩⟩; refine ⟨_, rfl, ?_⟩))
      go_roundg k1
      case measure => have := HK1.out; omega
      case rel => exact ⟨(t365), (wrap64 (x6_1 + 1)), (by first | rfl | (simp; done) | (simp [*]; done)), (by first | rfl | (simp; done) | (simp [*]; done)), H', ⟨by have := HK1.out; omega⟩, by repeat (first | exact Drawn0.refl _ | apply Drawn0.step)⟩
     ·rw [if_neg c7] at H
      exact absurd H (by simp)
    ·rw [if_neg c5] at H
     have c5b0 : (t364 == 1) = false := beq_eq_false_iff_ne.mpr c5
     have c5b1 : (t364 != 1) = true := bne_iff_ne.mpr c5
     have H' := Aside0.mk H
     clear H
     go_wp2_with (first | ((with_reducible refine gate_callee (f := 122) rfl ?_); refine gM_ 13 Tryz.func122 (lockgateref01_bit.calls a0 x6_1 t364 _ A4.out) ?_; rintro w' ⟨nd, rfl⟩))
     go_roundg k1
     case measure => have := HK1.out; omega
     case rel => exact ⟨(x5_1), (wrap64 (x6_1 + 1)), (by first | rfl | (simp; done) | (simp [*]; done)), (by first | rfl | (simp; done) | (simp [*]; done)), H', ⟨by have := HK1.out; omega⟩, by repeat (first | exact Drawn0.refl _ | apply Drawn0.step)⟩
   ·rw [if_neg c3] at H
    have c3b0 : decide (x6_1 < 64) = false := decide_eq_false c3
    clear c3
    obtain rfl := Option.some.inj H
    go_wp2
    go_ret
    exact ⟨by first | rfl | (simp; done) | (simp [*]; done), by repeat (first | exact Drawn0.refl _ | apply Drawn0.step)⟩

/-! ### lockgateref01_divide: function 119 -/
mutual
def lockgateref01_divide.l0 : Nat → Int → Int → Int → Int → Int → Option (Int × Int)
 | 0, _, _, _, _, _ => none
 | k + 1, x0, x1, x6, x7, x8 => if x8 ≥ 0 then ((lockgateref01_bit.f x7 63).bind fun t366 => ((lockgateref01_bit.f x0 x8).bind fun t367 => (if t366 = 1 then (lockgateref01_divide.j1 k x0 x1 x6 (IntKind.u64.wrap ((IntKind.u64.wrap (x7 * 2)) + t367)) x8 true) else (lockgateref01_divide.j1 k x0 x1 x6 (IntKind.u64.wrap ((IntKind.u64.wrap (x7 * 2)) + t367)) x8 (decide ((IntKind.u64.wrap ((IntKind.u64.wrap (x7 * 2)) + t367)) ≥ x1)))))) else (some (x6, x7))
def lockgateref01_divide.j1 : Nat → Int → Int → Int → Int → Int → Bool → Option (Int × Int)
 | 0, _, _, _, _, _, _ => none
 | k + 1, x0, x1, x6, x7, x8, x28 => if x28 = true then ((lockgateref01_not.f k x1).bind fun t368 => ((lockgateref01_add.f k x7 t368 1).bind fun t369 => (if 0 ≤ (IntKind.u64.wrap (x8)) then (lockgateref01_divide.l0 k x0 x1 (Go.bits .or .u64 x6 (shl .u64 1 (IntKind.u64.wrap (x8)))) t369 (wrap64 (x8 - 1))) else (none)))) else (lockgateref01_divide.l0 k x0 x1 x6 x7 (wrap64 (x8 - 1)))
end
def lockgateref01_divide.f (k : Nat) (a0 : Int) (a1 : Int) : Option (Int × Int) := lockgateref01_divide.l0 k a0 a1 0 0 63
theorem lockgateref01_divide.mono_l : ∀ k, (∀ y0 y1 y2 y3 y4, LeO (lockgateref01_divide.l0 k y0 y1 y2 y3 y4) (lockgateref01_divide.l0 (k + 1) y0 y1 y2 y3 y4)) ∧ (∀ y0 y1 y2 y3 y4 y5, LeO (lockgateref01_divide.j1 k y0 y1 y2 y3 y4 y5) (lockgateref01_divide.j1 (k + 1) y0 y1 y2 y3 y4 y5))
 | 0 => ⟨fun _ _ _ _ _ r h => by simp [lockgateref01_divide.l0] at h, fun _ _ _ _ _ _ r h => by simp [lockgateref01_divide.j1] at h⟩
 | k + 1 => by
  obtain ⟨ih0, ih1⟩ := lockgateref01_divide.mono_l k
  refine ⟨?_, ?_⟩
  ·intro y0 y1 y2 y3 y4
   unfold lockgateref01_divide.l0
   repeat' first
   | (with_reducible exact ih0 _ _ _ _ _)
   | (with_reducible exact ih1 _ _ _ _ _ _)
   | (with_reducible exact lockgateref01_add.mono _ _ _ _)
   | (with_reducible exact lockgateref01_not.mono _ _)
   | (with_reducible exact LeO.refl _)
   | (with_reducible exact LeO.none _)
   | (with_reducible refine LeO.ite ?_ ?_)
   | (with_reducible refine LeO.bind ?_ (fun _ => ?_))
   | exact ih0 _ _ _ _ _
   | exact ih1 _ _ _ _ _ _
   | exact lockgateref01_add.mono _ _ _ _
   | exact lockgateref01_not.mono _ _
   | exact LeO.none _
   | refine LeO.ite ?_ ?_
   | refine LeO.bind ?_ (fun _ => ?_)
  ·intro y0 y1 y2 y3 y4 y5
   unfold lockgateref01_divide.j1
   repeat' first
   | (with_reducible exact ih0 _ _ _ _ _)
   | (with_reducible exact ih1 _ _ _ _ _ _)
   | (with_reducible exact lockgateref01_add.mono _ _ _ _)
   | (with_reducible exact lockgateref01_not.mono _ _)
   | (with_reducible exact LeO.refl _)
   | (with_reducible exact LeO.none _)
   | (with_reducible refine LeO.ite ?_ ?_)
   | (with_reducible refine LeO.bind ?_ (fun _ => ?_))
   | exact ih0 _ _ _ _ _
   | exact ih1 _ _ _ _ _ _
   | exact lockgateref01_add.mono _ _ _ _
   | exact lockgateref01_not.mono _ _
   | exact LeO.none _
   | refine LeO.ite ?_ ?_
   | refine LeO.bind ?_ (fun _ => ?_)
theorem lockgateref01_divide.mono : ∀ a0 a1 k, LeO (lockgateref01_divide.f k a0 a1) (lockgateref01_divide.f (k + 1) a0 a1) := by
 intro a0 a1 k
 obtain ⟨ih0, ih1⟩ := lockgateref01_divide.mono_l k
 unfold lockgateref01_divide.f
 repeat' first
  | (with_reducible exact ih0 _ _ _ _ _)
  | (with_reducible exact ih1 _ _ _ _ _ _)
  | (with_reducible exact lockgateref01_add.mono _ _ _ _)
  | (with_reducible exact lockgateref01_not.mono _ _)
  | (with_reducible exact LeO.refl _)
  | (with_reducible exact LeO.none _)
  | (with_reducible refine LeO.ite ?_ ?_)
  | (with_reducible refine LeO.bind ?_ (fun _ => ?_))
  | exact ih0 _ _ _ _ _
  | exact ih1 _ _ _ _ _ _
  | exact lockgateref01_add.mono _ _ _ _
  | exact lockgateref01_not.mono _ _
  | exact LeO.none _
  | refine LeO.ite ?_ ?_
  | refine LeO.bind ?_ (fun _ => ?_)
set_option maxHeartbeats 8000000 in
set_option maxRecDepth 100000 in
theorem lockgateref01_divide.calls (k : Nat) (a0 : Int) (a1 : Int) (r1 : Int) (r2 : Int) (w : World) (h : lockgateref01_divide.f k a0 a1 = some (r1, r2)) :
 Calls Tryz.prog 119 #[.int .u64 a0, .int .u64 a1] w fun e w' => e = .returned (.tuple #[.int .u64 r1, .int .u64 r2]) ∧ Drawn0 w w' := by
 have H : (lockgateref01_divide.l0 k a0 a1 0 0 63) = some (r1, r2) := h
 clear h
 have H' := Aside0.mk H
 clear H
 go_enter Tryz.func119, Tryz.ntmps119
 go_wp2
 go_loopg [6, 7, 8] k (fun kq v6 v7 v8 w' => ∃ (x6_1 : Int) (x7_1 : Int) (x8_1 : Int), v6 = .int .u64 x6_1 ∧ v7 = .int .u64 x7_1 ∧ v8 = .int .i64 x8_1 ∧ Aside0 (lockgateref01_divide.l0 kq a0 a1 x6_1 x7_1 x8_1 = some (r1, r2)) ∧ Aside0 (kq ≤ k) ∧ Drawn0 w w')
 case atStart => exact ⟨(0), (0), (63), (by first | rfl | (simp; done) | (simp [*]; done)), (by first | rfl | (simp; done) | (simp [*]; done)), (by first | rfl | (simp; done) | (simp [*]; done)), H', ⟨Nat.le_refl _⟩, by repeat (first | exact Drawn0.refl _ | apply Drawn0.step)⟩
 case round =>
  clear H'
  try clear c1
  try clear p2
  obtain ⟨x6_1, x7_1, x8_1, rfl, rfl, rfl, HA, HK1, ⟨m1, rfl⟩⟩ := hrel
  cases gk with
  | zero => exact absurd HA.out (by simp [lockgateref01_divide.l0])
  | succ k1 =>
   have H := HA.out
   clear HA
   simp only [lockgateref01_divide.l0] at H
   by_cases c3 : x8_1 ≥ 0
   ·rw [if_pos c3] at H
    have c3b0 : decide (0 ≤ x8_1) = true := decide_eq_true c3
    clear c3
    replace H := Option.bind_eq_some_iff.mp H
    obtain ⟨t366, A40, H⟩ := H
    replace H : ((lockgateref01_bit.f a0 x8_1).bind fun t367 => (if t366 = 1 then (lockgateref01_divide.j1 k1 a0 a1 x6_1 (IntKind.u64.wrap ((IntKind.u64.wrap (x7_1 * 2)) + t367)) x8_1 true) else (lockgateref01_divide.j1 k1 a0 a1 x6_1 (IntKind.u64.wrap ((IntKind.u64.wrap (x7_1 * 2)) + t367)) x8_1 (decide ((IntKind.u64.wrap ((IntKind.u64.wrap (x7_1 * 2)) + t367)) ≥ a1))))) = some (r1, r2) := H
    have A4 := Aside0.mk A40
    clear A40
    replace H := Option.bind_eq_some_iff.mp H
    obtain ⟨t367, A50, H⟩ := H
    replace H : (if t366 = 1 then (lockgateref01_divide.j1 k1 a0 a1 x6_1 (IntKind.u64.wrap ((IntKind.u64.wrap (x7_1 * 2)) + t367)) x8_1 true) else (lockgateref01_divide.j1 k1 a0 a1 x6_1 (IntKind.u64.wrap ((IntKind.u64.wrap (x7_1 * 2)) + t367)) x8_1 (decide ((IntKind.u64.wrap ((IntKind.u64.wrap (x7_1 * 2)) + t367)) ≥ a1)))) = some (r1, r2) := H
    have A5 := Aside0.mk A50
    clear A50
    have HC6 := Aside0.mk H
    clear H
    go_upto_region 8 with (first | ((with_reducible refine gate_callee (f := 122) rfl ?_); refine gM_ 15 Tryz.func122 (lockgateref01_bit.calls x7_1 63 t366 _ A4.out) ?_; rintro w' ⟨nd, rfl⟩) | ((with_reducible refine gate_callee (f := 122) rfl ?_); refine gM_ 20 Tryz.func122 (lockgateref01_bit.calls a0 x8_1 t367 _ A5.out) ?_; rintro w' ⟨nd, rfl⟩))
    (try simp only [Act.put, s1_, s2_, s3_])
    go_cut [28] (fun v28 wc => ∃ (kq : Nat) (x28_5 : Bool), v28 = .bool x28_5 ∧ Aside0 (lockgateref01_divide.j1 kq a0 a1 x6_1 (IntKind.u64.wrap ((IntKind.u64.wrap (x7_1 * 2)) + t367)) x8_1 x28_5 = some (r1, r2)) ∧ Aside0 (kq ≤ k1) ∧ Drawn0 w wc)
    case first =>
     have H := HC6.out
     clear HC6
     by_cases c7 : t366 = 1
     ·rw [if_pos c7] at H
      have c7b0 : (t366 == 1) = true := beq_iff_eq.mpr c7
      have c7b1 : (t366 != 1) = false := bne_eq_false_iff_eq.mpr c7
      clear c7
      (first | rw [c7b0] | (simp only [i64_w, i32_w]; rw [c7b0]) | skip)
      have H' := Aside0.mk H
      clear H
      go_wp2
      go_meet
      case rel => exact ⟨_, (true), (by first | rfl | (simp; done) | (simp [*]; done)), H', ⟨by have := HK1.out; first | omega | exact Nat.le_refl _⟩, by repeat (first | exact Drawn0.refl _ | apply Drawn0.step)⟩
     ·rw [if_neg c7] at H
      have c7b0 : (t366 == 1) = false := beq_eq_false_iff_ne.mpr c7
      have c7b1 : (t366 != 1) = true := bne_iff_ne.mpr c7
      (first | rw [c7b0] | (simp only [i64_w, i32_w]; rw [c7b0]) | skip)
      have H' := Aside0.mk H
      clear H
      go_wp2
      go_meet
      case rel => exact ⟨_, (decide ((IntKind.u64.wrap ((IntKind.u64.wrap (x7_1 * 2)) + t367)) ≥ a1)), (by first | rfl | (simp; done) | (simp [*]; done)), H', ⟨by have := HK1.out; first | omega | exact Nat.le_refl _⟩, by repeat (first | exact Drawn0.refl _ | apply Drawn0.step)⟩
    case rest =>
     clear HC6
     try clear c1
     try clear p2
     try clear c3
     try clear c3b0
     try clear c7
     try clear c7b0
     try clear c7b1
     try clear p2
     obtain ⟨kq, x28_5, rfl, HA, HJ5, ⟨mc5, rfl⟩⟩ := hcut
     cases kq with
     | zero => exact absurd HA.out (by simp [lockgateref01_divide.j1])
     | succ kj5 =>
      have H := HA.out
      clear HA
      simp only [lockgateref01_divide.j1] at H
      by_cases c8 : x28_5 = true
      ·subst c8
       have H1 : ((lockgateref01_not.f kj5 a1).bind fun t368 => ((lockgateref01_add.f kj5 (IntKind.u64.wrap ((IntKind.u64.wrap (x7_1 * 2)) + t367)) t368 1).bind fun t369 => (if 0 ≤ (IntKind.u64.wrap (x8_1)) then (lockgateref01_divide.l0 kj5 a0 a1 (Go.bits .or .u64 x6_1 (shl .u64 1 (IntKind.u64.wrap (x8_1)))) t369 (wrap64 (x8_1 - 1))) else (none)))) = some (r1, r2) := by rw [if_pos rfl] at H; exact H
       clear H
       have H := H1
       clear H1
       replace H := Option.bind_eq_some_iff.mp H
       obtain ⟨t368, A90, H⟩ := H
       replace H : ((lockgateref01_add.f kj5 (IntKind.u64.wrap ((IntKind.u64.wrap (x7_1 * 2)) + t367)) t368 1).bind fun t369 => (if 0 ≤ (IntKind.u64.wrap (x8_1)) then (lockgateref01_divide.l0 kj5 a0 a1 (Go.bits .or .u64 x6_1 (shl .u64 1 (IntKind.u64.wrap (x8_1)))) t369 (wrap64 (x8_1 - 1))) else (none))) = some (r1, r2) := H
       have A9 := Aside0.mk A90
       clear A90
       replace H := Option.bind_eq_some_iff.mp H
       obtain ⟨t369, A100, H⟩ := H
       replace H : (if 0 ≤ (IntKind.u64.wrap (x8_1)) then (lockgateref01_divide.l0 kj5 a0 a1 (Go.bits .or .u64 x6_1 (shl .u64 1 (IntKind.u64.wrap (x8_1)))) t369 (wrap64 (x8_1 - 1))) else (none)) = some (r1, r2) := H
       have A10 := Aside0.mk A100
       clear A100
       obtain ⟨ji11, hji11⟩ : ∃ j_ : Int, (IntKind.u64.wrap (x8_1)) = j_ := ⟨_, rfl⟩
       replace H : (if 0 ≤ (ji11) then (lockgateref01_divide.l0 kj5 a0 a1 (Go.bits .or .u64 x6_1 (shl .u64 1 (ji11))) t369 (wrap64 (x8_1 - 1))) else (none)) = some (r1, r2) := by first | (rw [hji11] at H; exact H) | (simp only [hji11] at H ⊢; exact H)
       (try rw [hji11] at A9)
       (try rw [hji11] at A10)
       by_cases c12 : 0 ≤ (ji11)
       ·rw [if_pos c12] at H
        have c12b0 := eq_true c12
        have c12b1 : decide (0 ≤ (ji11)) = true := decide_eq_true c12
        clear c12
        obtain ⟨ji13, hji13⟩ : ∃ j_ : Int, (shl .u64 1 (ji11)) = j_ := ⟨_, rfl⟩
        replace H : (lockgateref01_divide.l0 kj5 a0 a1 (Go.bits .or .u64 x6_1 (ji13)) t369 (wrap64 (x8_1 - 1))) = some (r1, r2) := by first | (rw [hji13] at H; exact H) | (simp only [hji13] at H ⊢; exact H)
        (try rw [hji13] at A9)
        (try rw [hji13] at A10)
        have hji13_ : (IntKind.u64.wrap (1 * 2 ^ min (ji11).toNat 64)) = ji13 := hji13
        have hji13z : (ji11) ≤ 64 → (IntKind.u64.wrap (1 * 2 ^ (ji11).toNat)) = ji13 := shl_small hji13
        have hji13u : (IntKind.u64.wrap (2 ^ min (ji11).toNat 64)) = ji13 := by have h_ := hji13_; rw [Int.one_mul] at h_; exact h_
        have hji13v : (ji11) ≤ 64 → (IntKind.u64.wrap (2 ^ (ji11).toNat)) = ji13 := fun hle_ => by have h_ := hji13z hle_; rw [Int.one_mul] at h_; exact h_
        have H' := Aside0.mk H
        clear H
        go_wp2_with (first | ((with_reducible refine gate_callee (f := 117) rfl ?_); refine gM_ 31 Tryz.func117 (lockgateref01_not.calls kj5 a1 t368 _ A9.out) ?_; rintro w' ⟨nd, rfl⟩) | ((with_reducible refine gate_callee (f := 116) rfl ?_); refine goesL_ (some 32) rfl rfl Tryz.func116 (by kernel_rfl) rfl #[.int .u64 (IntKind.u64.wrap ((IntKind.u64.wrap (x7_1 * 2)) + t367)), .int .u64 t368, .int .u64 1] rfl mp_ ?_; (with_reducible refine (lockgateref01_add.calls kj5 (IntKind.u64.wrap ((IntKind.u64.wrap (x7_1 * 2)) + t367)) t368 1 t369 _ A10.out).mono ?_); rintro e w' ⟨rfl, ⟨nd, rfl⟩⟩; refine ⟨_, rfl, ?_⟩))
        go_roundg kj5
        case measure => have := HK1.out; have := HJ5.out; omega
        case rel => exact ⟨(Go.bits .or .u64 x6_1 (ji13)), (t369), (wrap64 (x8_1 - 1)), (by first | rfl | (simp; done) | (simp only [← hji13] <;> (first | rfl | simp)) | (simp [*]; done)), (by first | rfl | (simp; done) | (simp [*]; done)), (by first | rfl | (simp; done) | (simp [*]; done)), H', ⟨by have := HK1.out; have := HJ5.out; omega⟩, by repeat (first | exact Drawn0.refl _ | apply Drawn0.step)⟩
       ·rw [if_neg c12] at H
        exact absurd H (by simp)
      ·replace c8 := Bool.eq_false_iff.mpr c8
       subst c8
       have H1 : (lockgateref01_divide.l0 kj5 a0 a1 x6_1 (IntKind.u64.wrap ((IntKind.u64.wrap (x7_1 * 2)) + t367)) (wrap64 (x8_1 - 1))) = some (r1, r2) := by rw [if_neg (show ¬ (false = true) by decide)] at H; exact H
       clear H
       have H := H1
       clear H1
       have H' := Aside0.mk H
       clear H
       go_wp2
       go_roundg kj5
       case measure => have := HK1.out; have := HJ5.out; omega
       case rel => exact ⟨(x6_1), ((IntKind.u64.wrap ((IntKind.u64.wrap (x7_1 * 2)) + t367))), (wrap64 (x8_1 - 1)), (by first | rfl | (simp; done) | (simp [*]; done)), (by first | rfl | (simp; done) | (simp [*]; done)), (by first | rfl | (simp; done) | (simp [*]; done)), H', ⟨by have := HK1.out; have := HJ5.out; omega⟩, by repeat (first | exact Drawn0.refl _ | apply Drawn0.step)⟩
   ·rw [if_neg c3] at H
    have c3b0 : decide (0 ≤ x8_1) = false := decide_eq_false c3
    clear c3
    simp only [Option.some.injEq, Prod.mk.injEq] at H
    obtain ⟨rfl, rfl⟩ := H
    go_wp2
    go_ret2
    exact ⟨by first | rfl | (simp; done) | (simp [*]; done), by repeat (first | exact Drawn0.refl _ | apply Drawn0.step)⟩

/-! ### lockgateref01_bits: function 120 -/
def lockgateref01_bits.l0 : Nat → Int → Int → Int → Int → Int → Option (Int)
 | 0, _, _, _, _, _ => none
 | k + 1, x0, x1, x2, x7, x8 => if x8 < 64 then ((lockgateref01_bit.f x1 x8).bind fun t370 => ((lockgateref01_bit.f x2 x8).bind fun t371 => (if x0 = 4 then (if (IntKind.u64.wrap (t370 + t371)) > 0 then (if 0 ≤ (IntKind.u64.wrap (x8)) then (lockgateref01_bits.l0 k x0 x1 x2 (Go.bits .or .u64 x7 (shl .u64 1 (IntKind.u64.wrap (x8)))) (wrap64 (x8 + 1))) else (none)) else (if x0 = 5 then (if (IntKind.u64.wrap (t370 + t371)) = 2 then (if 0 ≤ (IntKind.u64.wrap (x8)) then (lockgateref01_bits.l0 k x0 x1 x2 (Go.bits .or .u64 x7 (shl .u64 1 (IntKind.u64.wrap (x8)))) (wrap64 (x8 + 1))) else (none)) else (if x0 = 10 then (if (IntKind.u64.wrap (t370 + t371)) = 1 then (if 0 ≤ (IntKind.u64.wrap (x8)) then (lockgateref01_bits.l0 k x0 x1 x2 (Go.bits .or .u64 x7 (shl .u64 1 (IntKind.u64.wrap (x8)))) (wrap64 (x8 + 1))) else (none)) else (lockgateref01_bits.l0 k x0 x1 x2 x7 (wrap64 (x8 + 1)))) else (lockgateref01_bits.l0 k x0 x1 x2 x7 (wrap64 (x8 + 1))))) else (if x0 = 10 then (if (IntKind.u64.wrap (t370 + t371)) = 1 then (if 0 ≤ (IntKind.u64.wrap (x8)) then (lockgateref01_bits.l0 k x0 x1 x2 (Go.bits .or .u64 x7 (shl .u64 1 (IntKind.u64.wrap (x8)))) (wrap64 (x8 + 1))) else (none)) else (lockgateref01_bits.l0 k x0 x1 x2 x7 (wrap64 (x8 + 1)))) else (lockgateref01_bits.l0 k x0 x1 x2 x7 (wrap64 (x8 + 1)))))) else (if x0 = 5 then (if (IntKind.u64.wrap (t370 + t371)) = 2 then (if 0 ≤ (IntKind.u64.wrap (x8)) then (lockgateref01_bits.l0 k x0 x1 x2 (Go.bits .or .u64 x7 (shl .u64 1 (IntKind.u64.wrap (x8)))) (wrap64 (x8 + 1))) else (none)) else (if x0 = 10 then (if (IntKind.u64.wrap (t370 + t371)) = 1 then (if 0 ≤ (IntKind.u64.wrap (x8)) then (lockgateref01_bits.l0 k x0 x1 x2 (Go.bits .or .u64 x7 (shl .u64 1 (IntKind.u64.wrap (x8)))) (wrap64 (x8 + 1))) else (none)) else (lockgateref01_bits.l0 k x0 x1 x2 x7 (wrap64 (x8 + 1)))) else (lockgateref01_bits.l0 k x0 x1 x2 x7 (wrap64 (x8 + 1))))) else (if x0 = 10 then (if (IntKind.u64.wrap (t370 + t371)) = 1 then (if 0 ≤ (IntKind.u64.wrap (x8)) then (lockgateref01_bits.l0 k x0 x1 x2 (Go.bits .or .u64 x7 (shl .u64 1 (IntKind.u64.wrap (x8)))) (wrap64 (x8 + 1))) else (none)) else (lockgateref01_bits.l0 k x0 x1 x2 x7 (wrap64 (x8 + 1)))) else (lockgateref01_bits.l0 k x0 x1 x2 x7 (wrap64 (x8 + 1)))))))) else (some x7)
def lockgateref01_bits.f (k : Nat) (a0 : Int) (a1 : Int) (a2 : Int) : Option (Int) := lockgateref01_bits.l0 k a0 a1 a2 0 0
theorem lockgateref01_bits.mono_l : ∀ k, (∀ y0 y1 y2 y3 y4, LeO (lockgateref01_bits.l0 k y0 y1 y2 y3 y4) (lockgateref01_bits.l0 (k + 1) y0 y1 y2 y3 y4))
 | 0 => fun _ _ _ _ _ r h => by simp [lockgateref01_bits.l0] at h
 | k + 1 => by
  have ih0 := lockgateref01_bits.mono_l k
  ·intro y0 y1 y2 y3 y4
   unfold lockgateref01_bits.l0
   repeat' first
   | (with_reducible exact ih0 _ _ _ _ _)
   | (with_reducible exact LeO.refl _)
   | (with_reducible exact LeO.none _)
   | (with_reducible refine LeO.ite ?_ ?_)
   | (with_reducible refine LeO.bind ?_ (fun _ => ?_))
   | exact ih0 _ _ _ _ _
   | exact LeO.none _
   | refine LeO.ite ?_ ?_
   | refine LeO.bind ?_ (fun _ => ?_)
theorem lockgateref01_bits.mono : ∀ a0 a1 a2 k, LeO (lockgateref01_bits.f k a0 a1 a2) (lockgateref01_bits.f (k + 1) a0 a1 a2) := by
 intro a0 a1 a2 k
 have ih0 := lockgateref01_bits.mono_l k
 unfold lockgateref01_bits.f
 repeat' first
  | (with_reducible exact ih0 _ _ _ _ _)
  | (with_reducible exact LeO.refl _)
  | (with_reducible exact LeO.none _)
  | (with_reducible refine LeO.ite ?_ ?_)
  | (with_reducible refine LeO.bind ?_ (fun _ => ?_))
  | exact ih0 _ _ _ _ _
  | exact LeO.none _
  | refine LeO.ite ?_ ?_
  | refine LeO.bind ?_ (fun _ => ?_)
set_option maxHeartbeats 8000000 in
set_option maxRecDepth 100000 in
theorem lockgateref01_bits.calls (k : Nat) (a0 : Int) (a1 : Int) (a2 : Int) (r : Int) (w : World) (h : lockgateref01_bits.f k a0 a1 a2 = some r) :
 Calls Tryz.prog 120 #[.int .i64 a0, .int .u64 a1, .int .u64 a2] w fun e w' => e = .returned (.int .u64 r) ∧ Drawn0 w w' := by
 have H : (lockgateref01_bits.l0 k a0 a1 a2 0 0) = some r := h
 clear h
 have H' := Aside0.mk H
 clear H
 go_enter Tryz.func120, Tryz.ntmps120
 go_wp2
 go_loopg [7, 8] k (fun kq v7 v8 w' => ∃ (x7_1 : Int) (x8_1 : Int), v7 = .int .u64 x7_1 ∧ v8 = .int .i64 x8_1 ∧ Aside0 (lockgateref01_bits.l0 kq a0 a1 a2 x7_1 x8_1 = some r) ∧ Aside0 (kq ≤ k) ∧ Drawn0 w w')
 case atStart => exact ⟨(0), (0), (by first | rfl | (simp; done) | (simp [*]; done)), (by first | rfl | (simp; done) | (simp [*]; done)), H', ⟨Nat.le_refl _⟩, by repeat (first | exact Drawn0.refl _ | apply Drawn0.step)⟩
 case round =>
  clear H'
  try clear c1
  try clear p2
  obtain ⟨x7_1, x8_1, rfl, rfl, HA, HK1, ⟨m1, rfl⟩⟩ := hrel
  cases gk with
  | zero => exact absurd HA.out (by simp [lockgateref01_bits.l0])
  | succ k1 =>
   have H := HA.out
   clear HA
   simp only [lockgateref01_bits.l0] at H
   by_cases c4 : x8_1 < 64
   ·rw [if_pos c4] at H
    have c4b0 : decide (x8_1 < 64) = true := decide_eq_true c4
    clear c4
    replace H := Option.bind_eq_some_iff.mp H
    obtain ⟨t370, A50, H⟩ := H
    replace H : ((lockgateref01_bit.f a2 x8_1).bind fun t371 => (if a0 = 4 then (if (IntKind.u64.wrap (t370 + t371)) > 0 then (if 0 ≤ (IntKind.u64.wrap (x8_1)) then (lockgateref01_bits.l0 k1 a0 a1 a2 (Go.bits .or .u64 x7_1 (shl .u64 1 (IntKind.u64.wrap (x8_1)))) (wrap64 (x8_1 + 1))) else (none)) else (if a0 = 5 then (if (IntKind.u64.wrap (t370 + t371)) = 2 then (if 0 ≤ (IntKind.u64.wrap (x8_1)) then (lockgateref01_bits.l0 k1 a0 a1 a2 (Go.bits .or .u64 x7_1 (shl .u64 1 (IntKind.u64.wrap (x8_1)))) (wrap64 (x8_1 + 1))) else (none)) else (if a0 = 10 then (if (IntKind.u64.wrap (t370 + t371)) = 1 then (if 0 ≤ (IntKind.u64.wrap (x8_1)) then (lockgateref01_bits.l0 k1 a0 a1 a2 (Go.bits .or .u64 x7_1 (shl .u64 1 (IntKind.u64.wrap (x8_1)))) (wrap64 (x8_1 + 1))) else (none)) else (lockgateref01_bits.l0 k1 a0 a1 a2 x7_1 (wrap64 (x8_1 + 1)))) else (lockgateref01_bits.l0 k1 a0 a1 a2 x7_1 (wrap64 (x8_1 + 1))))) else (if a0 = 10 then (if (IntKind.u64.wrap (t370 + t371)) = 1 then (if 0 ≤ (IntKind.u64.wrap (x8_1)) then (lockgateref01_bits.l0 k1 a0 a1 a2 (Go.bits .or .u64 x7_1 (shl .u64 1 (IntKind.u64.wrap (x8_1)))) (wrap64 (x8_1 + 1))) else (none)) else (lockgateref01_bits.l0 k1 a0 a1 a2 x7_1 (wrap64 (x8_1 + 1)))) else (lockgateref01_bits.l0 k1 a0 a1 a2 x7_1 (wrap64 (x8_1 + 1)))))) else (if a0 = 5 then (if (IntKind.u64.wrap (t370 + t371)) = 2 then (if 0 ≤ (IntKind.u64.wrap (x8_1)) then (lockgateref01_bits.l0 k1 a0 a1 a2 (Go.bits .or .u64 x7_1 (shl .u64 1 (IntKind.u64.wrap (x8_1)))) (wrap64 (x8_1 + 1))) else (none)) else (if a0 = 10 then (if (IntKind.u64.wrap (t370 + t371)) = 1 then (if 0 ≤ (IntKind.u64.wrap (x8_1)) then (lockgateref01_bits.l0 k1 a0 a1 a2 (Go.bits .or .u64 x7_1 (shl .u64 1 (IntKind.u64.wrap (x8_1)))) (wrap64 (x8_1 + 1))) else (none)) else (lockgateref01_bits.l0 k1 a0 a1 a2 x7_1 (wrap64 (x8_1 + 1)))) else (lockgateref01_bits.l0 k1 a0 a1 a2 x7_1 (wrap64 (x8_1 + 1))))) else (if a0 = 10 then (if (IntKind.u64.wrap (t370 + t371)) = 1 then (if 0 ≤ (IntKind.u64.wrap (x8_1)) then (lockgateref01_bits.l0 k1 a0 a1 a2 (Go.bits .or .u64 x7_1 (shl .u64 1 (IntKind.u64.wrap (x8_1)))) (wrap64 (x8_1 + 1))) else (none)) else (lockgateref01_bits.l0 k1 a0 a1 a2 x7_1 (wrap64 (x8_1 + 1)))) else (lockgateref01_bits.l0 k1 a0 a1 a2 x7_1 (wrap64 (x8_1 + 1))))))) = some r := H
    have A5 := Aside0.mk A50
    clear A50
    replace H := Option.bind_eq_some_iff.mp H
    obtain ⟨t371, A60, H⟩ := H
    replace H : (if a0 = 4 then (if (IntKind.u64.wrap (t370 + t371)) > 0 then (if 0 ≤ (IntKind.u64.wrap (x8_1)) then (lockgateref01_bits.l0 k1 a0 a1 a2 (Go.bits .or .u64 x7_1 (shl .u64 1 (IntKind.u64.wrap (x8_1)))) (wrap64 (x8_1 + 1))) else (none)) else (if a0 = 5 then (if (IntKind.u64.wrap (t370 + t371)) = 2 then (if 0 ≤ (IntKind.u64.wrap (x8_1)) then (lockgateref01_bits.l0 k1 a0 a1 a2 (Go.bits .or .u64 x7_1 (shl .u64 1 (IntKind.u64.wrap (x8_1)))) (wrap64 (x8_1 + 1))) else (none)) else (if a0 = 10 then (if (IntKind.u64.wrap (t370 + t371)) = 1 then (if 0 ≤ (IntKind.u64.wrap (x8_1)) then (lockgateref01_bits.l0 k1 a0 a1 a2 (Go.bits .or .u64 x7_1 (shl .u64 1 (IntKind.u64.wrap (x8_1)))) (wrap64 (x8_1 + 1))) else (none)) else (lockgateref01_bits.l0 k1 a0 a1 a2 x7_1 (wrap64 (x8_1 + 1)))) else (lockgateref01_bits.l0 k1 a0 a1 a2 x7_1 (wrap64 (x8_1 + 1))))) else (if a0 = 10 then (if (IntKind.u64.wrap (t370 + t371)) = 1 then (if 0 ≤ (IntKind.u64.wrap (x8_1)) then (lockgateref01_bits.l0 k1 a0 a1 a2 (Go.bits .or .u64 x7_1 (shl .u64 1 (IntKind.u64.wrap (x8_1)))) (wrap64 (x8_1 + 1))) else (none)) else (lockgateref01_bits.l0 k1 a0 a1 a2 x7_1 (wrap64 (x8_1 + 1)))) else (lockgateref01_bits.l0 k1 a0 a1 a2 x7_1 (wrap64 (x8_1 + 1)))))) else (if a0 = 5 then (if (IntKind.u64.wrap (t370 + t371)) = 2 then (if 0 ≤ (IntKind.u64.wrap (x8_1)) then (lockgateref01_bits.l0 k1 a0 a1 a2 (Go.bits .or .u64 x7_1 (shl .u64 1 (IntKind.u64.wrap (x8_1)))) (wrap64 (x8_1 + 1))) else (none)) else (if a0 = 10 then (if (IntKind.u64.wrap (t370 + t371)) = 1 then (if 0 ≤ (IntKind.u64.wrap (x8_1)) then (lockgateref01_bits.l0 k1 a0 a1 a2 (Go.bits .or .u64 x7_1 (shl .u64 1 (IntKind.u64.wrap (x8_1)))) (wrap64 (x8_1 + 1))) else (none)) else (lockgateref01_bits.l0 k1 a0 a1 a2 x7_1 (wrap64 (x8_1 + 1)))) else (lockgateref01_bits.l0 k1 a0 a1 a2 x7_1 (wrap64 (x8_1 + 1))))) else (if a0 = 10 then (if (IntKind.u64.wrap (t370 + t371)) = 1 then (if 0 ≤ (IntKind.u64.wrap (x8_1)) then (lockgateref01_bits.l0 k1 a0 a1 a2 (Go.bits .or .u64 x7_1 (shl .u64 1 (IntKind.u64.wrap (x8_1)))) (wrap64 (x8_1 + 1))) else (none)) else (lockgateref01_bits.l0 k1 a0 a1 a2 x7_1 (wrap64 (x8_1 + 1)))) else (lockgateref01_bits.l0 k1 a0 a1 a2 x7_1 (wrap64 (x8_1 + 1)))))) = some r := H
    have A6 := Aside0.mk A60
    clear A60
    by_cases c7 : a0 = 4
    ·rw [if_pos c7] at H
     have c7b0 : (a0 == 4) = true := beq_iff_eq.mpr c7
     have c7b1 : (a0 != 4) = false := bne_eq_false_iff_eq.mpr c7
     clear c7
     by_cases c8 : (IntKind.u64.wrap (t370 + t371)) > 0
     ·rw [if_pos c8] at H
      have c8b0 : decide (0 < (IntKind.u64.wrap (t370 + t371))) = true := decide_eq_true c8
      clear c8
      obtain ⟨ji9, hji9⟩ : ∃ j_ : Int, (IntKind.u64.wrap (x8_1)) = j_ := ⟨_, rfl⟩
      replace H : (if 0 ≤ (ji9) then (lockgateref01_bits.l0 k1 a0 a1 a2 (Go.bits .or .u64 x7_1 (shl .u64 1 (ji9))) (wrap64 (x8_1 + 1))) else (none)) = some r := by first | (rw [hji9] at H; exact H) | (simp only [hji9] at H ⊢; exact H)
      (try rw [hji9] at A5)
      (try rw [hji9] at A6)
      by_cases c10 : 0 ≤ (ji9)
      ·rw [if_pos c10] at H
       have c10b0 := eq_true c10
       have c10b1 : decide (0 ≤ (ji9)) = true := decide_eq_true c10
       clear c10
       obtain ⟨ji11, hji11⟩ : ∃ j_ : Int, (shl .u64 1 (ji9)) = j_ := ⟨_, rfl⟩
       replace H : (lockgateref01_bits.l0 k1 a0 a1 a2 (Go.bits .or .u64 x7_1 (ji11)) (wrap64 (x8_1 + 1))) = some r := by first | (rw [hji11] at H; exact H) | (simp only [hji11] at H ⊢; exact H)
       (try rw [hji11] at A5)
       (try rw [hji11] at A6)
       have hji11_ : (IntKind.u64.wrap (1 * 2 ^ min (ji9).toNat 64)) = ji11 := hji11
       have hji11z : (ji9) ≤ 64 → (IntKind.u64.wrap (1 * 2 ^ (ji9).toNat)) = ji11 := shl_small hji11
       have hji11u : (IntKind.u64.wrap (2 ^ min (ji9).toNat 64)) = ji11 := by have h_ := hji11_; rw [Int.one_mul] at h_; exact h_
       have hji11v : (ji9) ≤ 64 → (IntKind.u64.wrap (2 ^ (ji9).toNat)) = ji11 := fun hle_ => by have h_ := hji11z hle_; rw [Int.one_mul] at h_; exact h_
       have H' := Aside0.mk H
       clear H
       go_wp2_with (first | ((with_reducible refine gate_callee (f := 122) rfl ?_); refine gM_ 16 Tryz.func122 (lockgateref01_bit.calls a1 x8_1 t370 _ A5.out) ?_; rintro w' ⟨nd, rfl⟩) | ((with_reducible refine gate_callee (f := 122) rfl ?_); refine gM_ 19 Tryz.func122 (lockgateref01_bit.calls a2 x8_1 t371 _ A6.out) ?_; rintro w' ⟨nd, rfl⟩))
       go_roundg k1
       case measure => have := HK1.out; omega
       case rel => exact ⟨(Go.bits .or .u64 x7_1 (ji11)), (wrap64 (x8_1 + 1)), (by first | rfl | (simp; done) | (simp only [← hji11] <;> (first | rfl | simp)) | (simp [*]; done)), (by first | rfl | (simp; done) | (simp [*]; done)), H', ⟨by have := HK1.out; omega⟩, by repeat (first | exact Drawn0.refl _ | apply Drawn0.step)⟩
      ·rw [if_neg c10] at H
       exact absurd H (by simp)
     ·rw [if_neg c8] at H
      have c8b0 : decide (0 < (IntKind.u64.wrap (t370 + t371))) = false := decide_eq_false c8
      clear c8
      by_cases c12 : a0 = 5
      ·rw [if_pos c12] at H
       exact absurd (c12.symm.trans (eq_of_beq c7b0)) (by decide)
      ·rw [if_neg c12] at H
       have c12b0 : (a0 == 5) = false := beq_eq_false_iff_ne.mpr c12
       have c12b1 : (a0 != 5) = true := bne_iff_ne.mpr c12
       by_cases c13 : a0 = 10
       ·rw [if_pos c13] at H
        exact absurd (c13.symm.trans (eq_of_beq c7b0)) (by decide)
       ·rw [if_neg c13] at H
        have c13b0 : (a0 == 10) = false := beq_eq_false_iff_ne.mpr c13
        have c13b1 : (a0 != 10) = true := bne_iff_ne.mpr c13
        have H' := Aside0.mk H
        clear H
        go_wp2_with (first | ((with_reducible refine gate_callee (f := 122) rfl ?_); refine gM_ 16 Tryz.func122 (lockgateref01_bit.calls a1 x8_1 t370 _ A5.out) ?_; rintro w' ⟨nd, rfl⟩) | ((with_reducible refine gate_callee (f := 122) rfl ?_); refine gM_ 19 Tryz.func122 (lockgateref01_bit.calls a2 x8_1 t371 _ A6.out) ?_; rintro w' ⟨nd, rfl⟩))
        go_roundg k1
        case measure => have := HK1.out; omega
        case rel => exact ⟨(x7_1), (wrap64 (x8_1 + 1)), (by first | rfl | (simp; done) | (simp [*]; done)), (by first | rfl | (simp; done) | (simp [*]; done)), H', ⟨by have := HK1.out; omega⟩, by repeat (first | exact Drawn0.refl _ | apply Drawn0.step)⟩
    ·rw [if_neg c7] at H
     have c7b0 : (a0 == 4) = false := beq_eq_false_iff_ne.mpr c7
     have c7b1 : (a0 != 4) = true := bne_iff_ne.mpr c7
     by_cases c14 : a0 = 5
     ·rw [if_pos c14] at H
      have c14b0 : (a0 == 5) = true := beq_iff_eq.mpr c14
      have c14b1 : (a0 != 5) = false := bne_eq_false_iff_eq.mpr c14
      clear c14
      by_cases c15 : (IntKind.u64.wrap (t370 + t371)) = 2
      ·rw [if_pos c15] at H
       have c15b0 : ((IntKind.u64.wrap (t370 + t371)) == 2) = true := beq_iff_eq.mpr c15
       have c15b1 : ((IntKind.u64.wrap (t370 + t371)) != 2) = false := bne_eq_false_iff_eq.mpr c15
       clear c15
       obtain ⟨ji16, hji16⟩ : ∃ j_ : Int, (IntKind.u64.wrap (x8_1)) = j_ := ⟨_, rfl⟩
       replace H : (if 0 ≤ (ji16) then (lockgateref01_bits.l0 k1 a0 a1 a2 (Go.bits .or .u64 x7_1 (shl .u64 1 (ji16))) (wrap64 (x8_1 + 1))) else (none)) = some r := by first | (rw [hji16] at H; exact H) | (simp only [hji16] at H ⊢; exact H)
       (try rw [hji16] at A5)
       (try rw [hji16] at A6)
       by_cases c17 : 0 ≤ (ji16)
       ·rw [if_pos c17] at H
        have c17b0 := eq_true c17
        have c17b1 : decide (0 ≤ (ji16)) = true := decide_eq_true c17
        clear c17
        obtain ⟨ji18, hji18⟩ : ∃ j_ : Int, (shl .u64 1 (ji16)) = j_ := ⟨_, rfl⟩
        replace H : (lockgateref01_bits.l0 k1 a0 a1 a2 (Go.bits .or .u64 x7_1 (ji18)) (wrap64 (x8_1 + 1))) = some r := by first | (rw [hji18] at H; exact H) | (simp only [hji18] at H ⊢; exact H)
        (try rw [hji18] at A5)
        (try rw [hji18] at A6)
        have hji18_ : (IntKind.u64.wrap (1 * 2 ^ min (ji16).toNat 64)) = ji18 := hji18
        have hji18z : (ji16) ≤ 64 → (IntKind.u64.wrap (1 * 2 ^ (ji16).toNat)) = ji18 := shl_small hji18
        have hji18u : (IntKind.u64.wrap (2 ^ min (ji16).toNat 64)) = ji18 := by have h_ := hji18_; rw [Int.one_mul] at h_; exact h_
        have hji18v : (ji16) ≤ 64 → (IntKind.u64.wrap (2 ^ (ji16).toNat)) = ji18 := fun hle_ => by have h_ := hji18z hle_; rw [Int.one_mul] at h_; exact h_
        have H' := Aside0.mk H
        clear H
        go_wp2_with (first | ((with_reducible refine gate_callee (f := 122) rfl ?_); refine gM_ 16 Tryz.func122 (lockgateref01_bit.calls a1 x8_1 t370 _ A5.out) ?_; rintro w' ⟨nd, rfl⟩) | ((with_reducible refine gate_callee (f := 122) rfl ?_); refine gM_ 19 Tryz.func122 (lockgateref01_bit.calls a2 x8_1 t371 _ A6.out) ?_; rintro w' ⟨nd, rfl⟩))
        go_roundg k1
        case measure => have := HK1.out; omega
        case rel => exact ⟨(Go.bits .or .u64 x7_1 (ji18)), (wrap64 (x8_1 + 1)), (by first | rfl | (simp; done) | (simp only [← hji18] <;> (first | rfl | simp)) | (simp [*]; done)), (by first | rfl | (simp; done) | (simp [*]; done)), H', ⟨by have := HK1.out; omega⟩, by repeat (first | exact Drawn0.refl _ | apply Drawn0.step)⟩
       ·rw [if_neg c17] at H
        exact absurd H (by simp)
      ·rw [if_neg c15] at H
       have c15b0 : ((IntKind.u64.wrap (t370 + t371)) == 2) = false := beq_eq_false_iff_ne.mpr c15
       have c15b1 : ((IntKind.u64.wrap (t370 + t371)) != 2) = true := bne_iff_ne.mpr c15
       by_cases c19 : a0 = 10
       ·rw [if_pos c19] at H
        exact absurd (c19.symm.trans (eq_of_beq c14b0)) (by decide)
       ·rw [if_neg c19] at H
        have c19b0 : (a0 == 10) = false := beq_eq_false_iff_ne.mpr c19
        have c19b1 : (a0 != 10) = true := bne_iff_ne.mpr c19
        have H' := Aside0.mk H
        clear H
        go_wp2_with (first | ((with_reducible refine gate_callee (f := 122) rfl ?_); refine gM_ 16 Tryz.func122 (lockgateref01_bit.calls a1 x8_1 t370 _ A5.out) ?_; rintro w' ⟨nd, rfl⟩) | ((with_reducible refine gate_callee (f := 122) rfl ?_); refine gM_ 19 Tryz.func122 (lockgateref01_bit.calls a2 x8_1 t371 _ A6.out) ?_; rintro w' ⟨nd, rfl⟩))
        go_roundg k1
        case measure => have := HK1.out; omega
        case rel => exact ⟨(x7_1), (wrap64 (x8_1 + 1)), (by first | rfl | (simp; done) | (simp [*]; done)), (by first | rfl | (simp; done) | (simp [*]; done)), H', ⟨by have := HK1.out; omega⟩, by repeat (first | exact Drawn0.refl _ | apply Drawn0.step)⟩
     ·rw [if_neg c14] at H
      have c14b0 : (a0 == 5) = false := beq_eq_false_iff_ne.mpr c14
      have c14b1 : (a0 != 5) = true := bne_iff_ne.mpr c14
      by_cases c20 : a0 = 10
      ·rw [if_pos c20] at H
       have c20b0 : (a0 == 10) = true := beq_iff_eq.mpr c20
       have c20b1 : (a0 != 10) = false := bne_eq_false_iff_eq.mpr c20
       clear c20
       by_cases c21 : (IntKind.u64.wrap (t370 + t371)) = 1
       ·rw [if_pos c21] at H
        have c21b0 : ((IntKind.u64.wrap (t370 + t371)) == 1) = true := beq_iff_eq.mpr c21
        have c21b1 : ((IntKind.u64.wrap (t370 + t371)) != 1) = false := bne_eq_false_iff_eq.mpr c21
        clear c21
        obtain ⟨ji22, hji22⟩ : ∃ j_ : Int, (IntKind.u64.wrap (x8_1)) = j_ := ⟨_, rfl⟩
        replace H : (if 0 ≤ (ji22) then (lockgateref01_bits.l0 k1 a0 a1 a2 (Go.bits .or .u64 x7_1 (shl .u64 1 (ji22))) (wrap64 (x8_1 + 1))) else (none)) = some r := by first | (rw [hji22] at H; exact H) | (simp only [hji22] at H ⊢; exact H)
        (try rw [hji22] at A5)
        (try rw [hji22] at A6)
        by_cases c23 : 0 ≤ (ji22)
        ·rw [if_pos c23] at H
         have c23b0 := eq_true c23
         have c23b1 : decide (0 ≤ (ji22)) = true := decide_eq_true c23
         clear c23
         obtain ⟨ji24, hji24⟩ : ∃ j_ : Int, (shl .u64 1 (ji22)) = j_ := ⟨_, rfl⟩
         replace H : (lockgateref01_bits.l0 k1 a0 a1 a2 (Go.bits .or .u64 x7_1 (ji24)) (wrap64 (x8_1 + 1))) = some r := by first | (rw [hji24] at H; exact H) | (simp only [hji24] at H ⊢; exact H)
         (try rw [hji24] at A5)
         (try rw [hji24] at A6)
         have hji24_ : (IntKind.u64.wrap (1 * 2 ^ min (ji22).toNat 64)) = ji24 := hji24
         have hji24z : (ji22) ≤ 64 → (IntKind.u64.wrap (1 * 2 ^ (ji22).toNat)) = ji24 := shl_small hji24
         have hji24u : (IntKind.u64.wrap (2 ^ min (ji22).toNat 64)) = ji24 := by have h_ := hji24_; rw [Int.one_mul] at h_; exact h_
         have hji24v : (ji22) ≤ 64 → (IntKind.u64.wrap (2 ^ (ji22).toNat)) = ji24 := fun hle_ => by have h_ := hji24z hle_; rw [Int.one_mul] at h_; exact h_
         have H' := Aside0.mk H
         clear H
         go_wp2_with (first | ((with_reducible refine gate_callee (f := 122) rfl ?_); refine gM_ 16 Tryz.func122 (lockgateref01_bit.calls a1 x8_1 t370 _ A5.out) ?_; rintro w' ⟨nd, rfl⟩) | ((with_reducible refine gate_callee (f := 122) rfl ?_); refine gM_ 19 Tryz.func122 (lockgateref01_bit.calls a2 x8_1 t371 _ A6.out) ?_; rintro w' ⟨nd, rfl⟩))
         go_roundg k1
         case measure => have := HK1.out; omega
         case rel => exact ⟨(Go.bits .or .u64 x7_1 (ji24)), (wrap64 (x8_1 + 1)), (by first | rfl | (simp; done) | (simp only [← hji24] <;> (first | rfl | simp)) | (simp [*]; done)), (by first | rfl | (simp; done) | (simp [*]; done)), H', ⟨by have := HK1.out; omega⟩, by repeat (first | exact Drawn0.refl _ | apply Drawn0.step)⟩
        ·rw [if_neg c23] at H
         exact absurd H (by simp)
       ·rw [if_neg c21] at H
        have c21b0 : ((IntKind.u64.wrap (t370 + t371)) == 1) = false := beq_eq_false_iff_ne.mpr c21
        have c21b1 : ((IntKind.u64.wrap (t370 + t371)) != 1) = true := bne_iff_ne.mpr c21
        have H' := Aside0.mk H
        clear H
        go_wp2_with (first | ((with_reducible refine gate_callee (f := 122) rfl ?_); refine gM_ 16 Tryz.func122 (lockgateref01_bit.calls a1 x8_1 t370 _ A5.out) ?_; rintro w' ⟨nd, rfl⟩) | ((with_reducible refine gate_callee (f := 122) rfl ?_); refine gM_ 19 Tryz.func122 (lockgateref01_bit.calls a2 x8_1 t371 _ A6.out) ?_; rintro w' ⟨nd, rfl⟩))
        go_roundg k1
        case measure => have := HK1.out; omega
        case rel => exact ⟨(x7_1), (wrap64 (x8_1 + 1)), (by first | rfl | (simp; done) | (simp [*]; done)), (by first | rfl | (simp; done) | (simp [*]; done)), H', ⟨by have := HK1.out; omega⟩, by repeat (first | exact Drawn0.refl _ | apply Drawn0.step)⟩
      ·rw [if_neg c20] at H
       have c20b0 : (a0 == 10) = false := beq_eq_false_iff_ne.mpr c20
       have c20b1 : (a0 != 10) = true := bne_iff_ne.mpr c20
       have H' := Aside0.mk H
       clear H
       go_wp2_with (first | ((with_reducible refine gate_callee (f := 122) rfl ?_); refine gM_ 16 Tryz.func122 (lockgateref01_bit.calls a1 x8_1 t370 _ A5.out) ?_; rintro w' ⟨nd, rfl⟩) | ((with_reducible refine gate_callee (f := 122) rfl ?_); refine gM_ 19 Tryz.func122 (lockgateref01_bit.calls a2 x8_1 t371 _ A6.out) ?_; rintro w' ⟨nd, rfl⟩))
       go_roundg k1
       case measure => have := HK1.out; omega
       case rel => exact ⟨(x7_1), (wrap64 (x8_1 + 1)), (by first | rfl | (simp; done) | (simp [*]; done)), (by first | rfl | (simp; done) | (simp [*]; done)), H', ⟨by have := HK1.out; omega⟩, by repeat (first | exact Drawn0.refl _ | apply Drawn0.step)⟩
   ·rw [if_neg c4] at H
    have c4b0 : decide (x8_1 < 64) = false := decide_eq_false c4
    clear c4
    obtain rfl := Option.some.inj H
    go_wp2
    go_ret
    exact ⟨by first | rfl | (simp; done) | (simp [*]; done), by repeat (first | exact Drawn0.refl _ | apply Drawn0.step)⟩

/-! ### lockgateref01_down: function 121 -/
def lockgateref01_down.l0 : Nat → Int → Int → Int → Int → Int → Int → Option (Int)
 | 0, _, _, _, _, _, _ => none
 | k + 1, x0, x1, x2, x3, x9, x10 => if x10 < x2 then (if (wrap64 (x10 + x1)) < x2 then ((lockgateref01_bit.f x0 (wrap64 (x10 + x1))).bind fun t372 => (if 0 ≤ (IntKind.u64.wrap (x10)) then (lockgateref01_down.l0 k x0 x1 x2 x3 (Go.bits .or .u64 x9 (shl .u64 t372 (IntKind.u64.wrap (x10)))) (wrap64 (x10 + 1))) else (none))) else (if 0 ≤ (IntKind.u64.wrap (x10)) then (lockgateref01_down.l0 k x0 x1 x2 x3 (Go.bits .or .u64 x9 (shl .u64 x3 (IntKind.u64.wrap (x10)))) (wrap64 (x10 + 1))) else (none))) else (some x9)
def lockgateref01_down.f (k : Nat) (a0 : Int) (a1 : Int) (a2 : Int) (a3 : Int) : Option (Int) := lockgateref01_down.l0 k a0 a1 a2 a3 0 0
theorem lockgateref01_down.mono_l : ∀ k, (∀ y0 y1 y2 y3 y4 y5, LeO (lockgateref01_down.l0 k y0 y1 y2 y3 y4 y5) (lockgateref01_down.l0 (k + 1) y0 y1 y2 y3 y4 y5))
 | 0 => fun _ _ _ _ _ _ r h => by simp [lockgateref01_down.l0] at h
 | k + 1 => by
  have ih0 := lockgateref01_down.mono_l k
  ·intro y0 y1 y2 y3 y4 y5
   unfold lockgateref01_down.l0
   repeat' first
   | (with_reducible exact ih0 _ _ _ _ _ _)
   | (with_reducible exact LeO.refl _)
   | (with_reducible exact LeO.none _)
   | (with_reducible refine LeO.ite ?_ ?_)
   | (with_reducible refine LeO.bind ?_ (fun _ => ?_))
   | exact ih0 _ _ _ _ _ _
   | exact LeO.none _
   | refine LeO.ite ?_ ?_
   | refine LeO.bind ?_ (fun _ => ?_)
theorem lockgateref01_down.mono : ∀ a0 a1 a2 a3 k, LeO (lockgateref01_down.f k a0 a1 a2 a3) (lockgateref01_down.f (k + 1) a0 a1 a2 a3) := by
 intro a0 a1 a2 a3 k
 have ih0 := lockgateref01_down.mono_l k
 unfold lockgateref01_down.f
 repeat' first
  | (with_reducible exact ih0 _ _ _ _ _ _)
  | (with_reducible exact LeO.refl _)
  | (with_reducible exact LeO.none _)
  | (with_reducible refine LeO.ite ?_ ?_)
  | (with_reducible refine LeO.bind ?_ (fun _ => ?_))
  | exact ih0 _ _ _ _ _ _
  | exact LeO.none _
  | refine LeO.ite ?_ ?_
  | refine LeO.bind ?_ (fun _ => ?_)
set_option maxHeartbeats 8000000 in
set_option maxRecDepth 100000 in
theorem lockgateref01_down.calls (k : Nat) (a0 : Int) (a1 : Int) (a2 : Int) (a3 : Int) (r : Int) (w : World) (h : lockgateref01_down.f k a0 a1 a2 a3 = some r) :
 Calls Tryz.prog 121 #[.int .u64 a0, .int .i64 a1, .int .i64 a2, .int .u64 a3] w fun e w' => e = .returned (.int .u64 r) ∧ Drawn0 w w' := by
 have H : (lockgateref01_down.l0 k a0 a1 a2 a3 0 0) = some r := h
 clear h
 have H' := Aside0.mk H
 clear H
 go_enter Tryz.func121, Tryz.ntmps121
 go_wp2
 go_loopg [9, 10] k (fun kq v9 v10 w' => ∃ (x9_1 : Int) (x10_1 : Int), v9 = .int .u64 x9_1 ∧ v10 = .int .i64 x10_1 ∧ Aside0 (lockgateref01_down.l0 kq a0 a1 a2 a3 x9_1 x10_1 = some r) ∧ Aside0 (kq ≤ k) ∧ Drawn0 w w')
 case atStart => exact ⟨(0), (0), (by first | rfl | (simp; done) | (simp [*]; done)), (by first | rfl | (simp; done) | (simp [*]; done)), H', ⟨Nat.le_refl _⟩, by repeat (first | exact Drawn0.refl _ | apply Drawn0.step)⟩
 case round =>
  clear H'
  try clear c1
  try clear p2
  obtain ⟨x9_1, x10_1, rfl, rfl, HA, HK1, ⟨m1, rfl⟩⟩ := hrel
  cases gk with
  | zero => exact absurd HA.out (by simp [lockgateref01_down.l0])
  | succ k1 =>
   have H := HA.out
   clear HA
   simp only [lockgateref01_down.l0] at H
   by_cases c5 : x10_1 < a2
   ·rw [if_pos c5] at H
    have c5b0 : decide (x10_1 < a2) = true := decide_eq_true c5
    clear c5
    by_cases c6 : (wrap64 (x10_1 + a1)) < a2
    ·rw [if_pos c6] at H
     have c6b0 : decide ((wrap64 (x10_1 + a1)) < a2) = true := decide_eq_true c6
     clear c6
     replace H := Option.bind_eq_some_iff.mp H
     obtain ⟨t372, A70, H⟩ := H
     replace H : (if 0 ≤ (IntKind.u64.wrap (x10_1)) then (lockgateref01_down.l0 k1 a0 a1 a2 a3 (Go.bits .or .u64 x9_1 (shl .u64 t372 (IntKind.u64.wrap (x10_1)))) (wrap64 (x10_1 + 1))) else (none)) = some r := H
     have A7 := Aside0.mk A70
     clear A70
     obtain ⟨ji8, hji8⟩ : ∃ j_ : Int, (IntKind.u64.wrap (x10_1)) = j_ := ⟨_, rfl⟩
     replace H : (if 0 ≤ (ji8) then (lockgateref01_down.l0 k1 a0 a1 a2 a3 (Go.bits .or .u64 x9_1 (shl .u64 t372 (ji8))) (wrap64 (x10_1 + 1))) else (none)) = some r := by first | (rw [hji8] at H; exact H) | (simp only [hji8] at H ⊢; exact H)
     (try rw [hji8] at A7)
     by_cases c9 : 0 ≤ (ji8)
     ·rw [if_pos c9] at H
      have c9b0 := eq_true c9
      have c9b1 : decide (0 ≤ (ji8)) = true := decide_eq_true c9
      clear c9
      obtain ⟨ji10, hji10⟩ : ∃ j_ : Int, (shl .u64 t372 (ji8)) = j_ := ⟨_, rfl⟩
      replace H : (lockgateref01_down.l0 k1 a0 a1 a2 a3 (Go.bits .or .u64 x9_1 (ji10)) (wrap64 (x10_1 + 1))) = some r := by first | (rw [hji10] at H; exact H) | (simp only [hji10] at H ⊢; exact H)
      (try rw [hji10] at A7)
      have hji10_ : (IntKind.u64.wrap (t372 * 2 ^ min (ji8).toNat 64)) = ji10 := hji10
      have hji10z : (ji8) ≤ 64 → (IntKind.u64.wrap (t372 * 2 ^ (ji8).toNat)) = ji10 := shl_small hji10
      have H' := Aside0.mk H
      clear H
      go_wp2_with (first | ((with_reducible refine gate_callee (f := 122) rfl ?_); refine gM_ 27 Tryz.func122 (lockgateref01_bit.calls a0 (wrap64 (x10_1 + a1)) t372 _ A7.out) ?_; rintro w' ⟨nd, rfl⟩))
      go_roundg k1
      case measure => have := HK1.out; omega
      case rel => exact ⟨(Go.bits .or .u64 x9_1 (ji10)), (wrap64 (x10_1 + 1)), (by first | rfl | (simp; done) | (simp only [← hji10] <;> (first | rfl | simp)) | (simp [*]; done)), (by first | rfl | (simp; done) | (simp [*]; done)), H', ⟨by have := HK1.out; omega⟩, by repeat (first | exact Drawn0.refl _ | apply Drawn0.step)⟩
     ·rw [if_neg c9] at H
      exact absurd H (by simp)
    ·rw [if_neg c6] at H
     have c6b0 : decide ((wrap64 (x10_1 + a1)) < a2) = false := decide_eq_false c6
     clear c6
     obtain ⟨ji11, hji11⟩ : ∃ j_ : Int, (IntKind.u64.wrap (x10_1)) = j_ := ⟨_, rfl⟩
     replace H : (if 0 ≤ (ji11) then (lockgateref01_down.l0 k1 a0 a1 a2 a3 (Go.bits .or .u64 x9_1 (shl .u64 a3 (ji11))) (wrap64 (x10_1 + 1))) else (none)) = some r := by first | (rw [hji11] at H; exact H) | (simp only [hji11] at H ⊢; exact H)
     by_cases c12 : 0 ≤ (ji11)
     ·rw [if_pos c12] at H
      have c12b0 := eq_true c12
      have c12b1 : decide (0 ≤ (ji11)) = true := decide_eq_true c12
      clear c12
      obtain ⟨ji13, hji13⟩ : ∃ j_ : Int, (shl .u64 a3 (ji11)) = j_ := ⟨_, rfl⟩
      replace H : (lockgateref01_down.l0 k1 a0 a1 a2 a3 (Go.bits .or .u64 x9_1 (ji13)) (wrap64 (x10_1 + 1))) = some r := by first | (rw [hji13] at H; exact H) | (simp only [hji13] at H ⊢; exact H)
      have hji13_ : (IntKind.u64.wrap (a3 * 2 ^ min (ji11).toNat 64)) = ji13 := hji13
      have hji13z : (ji11) ≤ 64 → (IntKind.u64.wrap (a3 * 2 ^ (ji11).toNat)) = ji13 := shl_small hji13
      have H' := Aside0.mk H
      clear H
      go_wp2
      go_roundg k1
      case measure => have := HK1.out; omega
      case rel => exact ⟨(Go.bits .or .u64 x9_1 (ji13)), (wrap64 (x10_1 + 1)), (by first | rfl | (simp; done) | (simp only [← hji13] <;> (first | rfl | simp)) | (simp [*]; done)), (by first | rfl | (simp; done) | (simp [*]; done)), H', ⟨by have := HK1.out; omega⟩, by repeat (first | exact Drawn0.refl _ | apply Drawn0.step)⟩
     ·rw [if_neg c12] at H
      exact absurd H (by simp)
   ·rw [if_neg c5] at H
    have c5b0 : decide (x10_1 < a2) = false := decide_eq_false c5
    clear c5
    obtain rfl := Option.some.inj H
    go_wp2
    go_ret
    exact ⟨by first | rfl | (simp; done) | (simp [*]; done), by repeat (first | exact Drawn0.refl _ | apply Drawn0.step)⟩

/-! ### lockgateref01_Alu: function 35 -/
mutual
def lockgateref01_Alu.j0 : Nat → Int → Int → Int → Int → Option (Int × Bool)
 | 0, _, _, _, _ => none
 | k + 1, x0, x2, x3, x10 => (lockgateref01_Low.f x2 x10).bind fun t373 => ((lockgateref01_Low.f x3 x10).bind fun t374 => (if (IntKind.u64.wrap (x10)) = 0 then (none) else (if x0 = 0 then ((lockgateref01_add.f k t373 t374 0).bind fun t375 => ((lockgateref01_Low.f t375 x10).bind fun t376 => (some (t376, true)))) else (if x0 = 1 then ((lockgateref01_not.f k t374).bind fun t377 => ((lockgateref01_add.f k t373 t377 1).bind fun t378 => ((lockgateref01_Low.f t378 x10).bind fun t379 => (some (t379, true))))) else (if x0 = 2 then ((lockgateref01_times.f k t373 t374).bind fun t380 => ((lockgateref01_Low.f t380 x10).bind fun t381 => (some (t381, true)))) else (if x0 = 3 then (lockgateref01_Alu.j1 k x0 t373 t374 x10 (wrap64 (Int.tmod t374 (IntKind.u64.wrap (x10)))) x0 (x0 == 3)) else (lockgateref01_Alu.j1 k x0 t373 t374 x10 (wrap64 (Int.tmod t374 (IntKind.u64.wrap (x10)))) x0 (x0 == 9))))))))
def lockgateref01_Alu.j1 : Nat → Int → Int → Int → Int → Int → Int → Bool → Option (Int × Bool)
 | 0, _, _, _, _, _, _, _ => none
 | k + 1, x0, x2, x3, x10, x11, x28, x45 => if x45 = true then (if x3 > 0 then ((lockgateref01_divide.f k x2 x3).bind fun bt382 => (if x0 = 9 then ((lockgateref01_Low.f bt382.2 x10).bind fun t384 => (some (t384, true))) else ((lockgateref01_Low.f bt382.1 x10).bind fun t385 => (some (t385, true))))) else (if x0 = 9 then ((lockgateref01_Low.f x2 x10).bind fun t386 => (some (t386, true))) else ((lockgateref01_Low.f 0 x10).bind fun t387 => (some (t387, true))))) else (if x28 = 4 then (lockgateref01_Alu.j2 k x0 x2 x3 x10 x11 x28 (x28 == 4)) else (if x28 = 5 then (lockgateref01_Alu.j2 k x0 x2 x3 x10 x11 x28 (x28 == 5)) else (lockgateref01_Alu.j2 k x0 x2 x3 x10 x11 x28 (x28 == 10))))
def lockgateref01_Alu.j2 : Nat → Int → Int → Int → Int → Int → Int → Bool → Option (Int × Bool)
 | 0, _, _, _, _, _, _, _ => none
 | k + 1, x0, x2, x3, x10, x11, x28, x61 => if x61 = true then ((lockgateref01_bits.f k x0 x2 x3).bind fun t388 => ((lockgateref01_Low.f t388 x10).bind fun t389 => (some (t389, true)))) else (if x28 = 6 then (if 0 ≤ (IntKind.u64.wrap (x11)) then ((lockgateref01_Low.f (shl .u64 x2 (IntKind.u64.wrap (x11))) x10).bind fun t390 => (some (t390, true))) else (none)) else (if x28 = 7 then ((lockgateref01_down.f k x2 x11 x10 0).bind fun t391 => ((lockgateref01_Low.f t391 x10).bind fun t392 => (some (t392, true)))) else (if x28 = 8 then ((lockgateref01_not.f k x2).bind fun t393 => ((lockgateref01_add.f k 0 t393 1).bind fun t394 => ((lockgateref01_Low.f t394 x10).bind fun t395 => (some (t395, true))))) else (if x28 = 11 then ((lockgateref01_Low.f x3 x10).bind fun t396 => (some (t396, true))) else (if x28 = 12 then ((lockgateref01_bit.f x2 (wrap64 (x10 - 1))).bind fun t397 => ((lockgateref01_down.f k x2 x11 x10 t397).bind fun t398 => ((lockgateref01_Low.f t398 x10).bind fun t399 => (some (t399, true))))) else (some (0, false)))))))
end
def lockgateref01_Alu.f (k : Nat) (a0 : Int) (a1 : Bool) (a2 : Int) (a3 : Int) : Option (Int × Bool) := if a1 = true then (lockgateref01_Alu.j0 k a0 a2 a3 64) else (lockgateref01_Alu.j0 k a0 a2 a3 32)
theorem lockgateref01_Alu.mono_l : ∀ k, (∀ y0 y1 y2 y3, LeO (lockgateref01_Alu.j0 k y0 y1 y2 y3) (lockgateref01_Alu.j0 (k + 1) y0 y1 y2 y3)) ∧ (∀ y0 y1 y2 y3 y4 y5 y6, LeO (lockgateref01_Alu.j1 k y0 y1 y2 y3 y4 y5 y6) (lockgateref01_Alu.j1 (k + 1) y0 y1 y2 y3 y4 y5 y6)) ∧ (∀ y0 y1 y2 y3 y4 y5 y6, LeO (lockgateref01_Alu.j2 k y0 y1 y2 y3 y4 y5 y6) (lockgateref01_Alu.j2 (k + 1) y0 y1 y2 y3 y4 y5 y6))
 | 0 => ⟨fun _ _ _ _ r h => by simp [lockgateref01_Alu.j0] at h, fun _ _ _ _ _ _ _ r h => by simp [lockgateref01_Alu.j1] at h, fun _ _ _ _ _ _ _ r h => by simp [lockgateref01_Alu.j2] at h⟩
 | k + 1 => by
  obtain ⟨ih0, ih1, ih2⟩ := lockgateref01_Alu.mono_l k
  refine ⟨?_, ?_, ?_⟩
  ·intro y0 y1 y2 y3
   unfold lockgateref01_Alu.j0
   repeat' first
   | (with_reducible exact ih0 _ _ _ _)
   | (with_reducible exact ih1 _ _ _ _ _ _ _)
   | (with_reducible exact ih2 _ _ _ _ _ _ _)
   | (with_reducible exact lockgateref01_add.mono _ _ _ _)
   | (with_reducible exact lockgateref01_bits.mono _ _ _ _)
   | (with_reducible exact lockgateref01_divide.mono _ _ _)
   | (with_reducible exact lockgateref01_down.mono _ _ _ _ _)
   | (with_reducible exact lockgateref01_not.mono _ _)
   | (with_reducible exact lockgateref01_times.mono _ _ _)
   | (with_reducible exact LeO.refl _)
   | (with_reducible exact LeO.none _)
   | (with_reducible refine LeO.ite ?_ ?_)
   | (with_reducible refine LeO.bind ?_ (fun _ => ?_))
   | exact ih0 _ _ _ _
   | exact ih1 _ _ _ _ _ _ _
   | exact ih2 _ _ _ _ _ _ _
   | exact lockgateref01_add.mono _ _ _ _
   | exact lockgateref01_bits.mono _ _ _ _
   | exact lockgateref01_divide.mono _ _ _
   | exact lockgateref01_down.mono _ _ _ _ _
   | exact lockgateref01_not.mono _ _
   | exact lockgateref01_times.mono _ _ _
   | exact LeO.none _
   | refine LeO.ite ?_ ?_
   | refine LeO.bind ?_ (fun _ => ?_)
  ·intro y0 y1 y2 y3 y4 y5 y6
   unfold lockgateref01_Alu.j1
   repeat' first
   | (with_reducible exact ih0 _ _ _ _)
   | (with_reducible exact ih1 _ _ _ _ _ _ _)
   | (with_reducible exact ih2 _ _ _ _ _ _ _)
   | (with_reducible exact lockgateref01_add.mono _ _ _ _)
   | (with_reducible exact lockgateref01_bits.mono _ _ _ _)
   | (with_reducible exact lockgateref01_divide.mono _ _ _)
   | (with_reducible exact lockgateref01_down.mono _ _ _ _ _)
   | (with_reducible exact lockgateref01_not.mono _ _)
   | (with_reducible exact lockgateref01_times.mono _ _ _)
   | (with_reducible exact LeO.refl _)
   | (with_reducible exact LeO.none _)
   | (with_reducible refine LeO.ite ?_ ?_)
   | (with_reducible refine LeO.bind ?_ (fun _ => ?_))
   | exact ih0 _ _ _ _
   | exact ih1 _ _ _ _ _ _ _
   | exact ih2 _ _ _ _ _ _ _
   | exact lockgateref01_add.mono _ _ _ _
   | exact lockgateref01_bits.mono _ _ _ _
   | exact lockgateref01_divide.mono _ _ _
   | exact lockgateref01_down.mono _ _ _ _ _
   | exact lockgateref01_not.mono _ _
   | exact lockgateref01_times.mono _ _ _
   | exact LeO.none _
   | refine LeO.ite ?_ ?_
   | refine LeO.bind ?_ (fun _ => ?_)
  ·intro y0 y1 y2 y3 y4 y5 y6
   unfold lockgateref01_Alu.j2
   repeat' first
   | (with_reducible exact ih0 _ _ _ _)
   | (with_reducible exact ih1 _ _ _ _ _ _ _)
   | (with_reducible exact ih2 _ _ _ _ _ _ _)
   | (with_reducible exact lockgateref01_add.mono _ _ _ _)
   | (with_reducible exact lockgateref01_bits.mono _ _ _ _)
   | (with_reducible exact lockgateref01_divide.mono _ _ _)
   | (with_reducible exact lockgateref01_down.mono _ _ _ _ _)
   | (with_reducible exact lockgateref01_not.mono _ _)
   | (with_reducible exact lockgateref01_times.mono _ _ _)
   | (with_reducible exact LeO.refl _)
   | (with_reducible exact LeO.none _)
   | (with_reducible refine LeO.ite ?_ ?_)
   | (with_reducible refine LeO.bind ?_ (fun _ => ?_))
   | exact ih0 _ _ _ _
   | exact ih1 _ _ _ _ _ _ _
   | exact ih2 _ _ _ _ _ _ _
   | exact lockgateref01_add.mono _ _ _ _
   | exact lockgateref01_bits.mono _ _ _ _
   | exact lockgateref01_divide.mono _ _ _
   | exact lockgateref01_down.mono _ _ _ _ _
   | exact lockgateref01_not.mono _ _
   | exact lockgateref01_times.mono _ _ _
   | exact LeO.none _
   | refine LeO.ite ?_ ?_
   | refine LeO.bind ?_ (fun _ => ?_)
theorem lockgateref01_Alu.mono : ∀ a0 a1 a2 a3 k, LeO (lockgateref01_Alu.f k a0 a1 a2 a3) (lockgateref01_Alu.f (k + 1) a0 a1 a2 a3) := by
 intro a0 a1 a2 a3 k
 obtain ⟨ih0, ih1, ih2⟩ := lockgateref01_Alu.mono_l k
 unfold lockgateref01_Alu.f
 repeat' first
  | (with_reducible exact ih0 _ _ _ _)
  | (with_reducible exact ih1 _ _ _ _ _ _ _)
  | (with_reducible exact ih2 _ _ _ _ _ _ _)
  | (with_reducible exact lockgateref01_add.mono _ _ _ _)
  | (with_reducible exact lockgateref01_bits.mono _ _ _ _)
  | (with_reducible exact lockgateref01_divide.mono _ _ _)
  | (with_reducible exact lockgateref01_down.mono _ _ _ _ _)
  | (with_reducible exact lockgateref01_not.mono _ _)
  | (with_reducible exact lockgateref01_times.mono _ _ _)
  | (with_reducible exact LeO.refl _)
  | (with_reducible exact LeO.none _)
  | (with_reducible refine LeO.ite ?_ ?_)
  | (with_reducible refine LeO.bind ?_ (fun _ => ?_))
  | exact ih0 _ _ _ _
  | exact ih1 _ _ _ _ _ _ _
  | exact ih2 _ _ _ _ _ _ _
  | exact lockgateref01_add.mono _ _ _ _
  | exact lockgateref01_bits.mono _ _ _ _
  | exact lockgateref01_divide.mono _ _ _
  | exact lockgateref01_down.mono _ _ _ _ _
  | exact lockgateref01_not.mono _ _
  | exact lockgateref01_times.mono _ _ _
  | exact LeO.none _
  | refine LeO.ite ?_ ?_
  | refine LeO.bind ?_ (fun _ => ?_)
set_option maxHeartbeats 8000000 in
set_option maxRecDepth 100000 in
theorem lockgateref01_Alu.calls (k : Nat) (a0 : Int) (a1 : Bool) (a2 : Int) (a3 : Int) (r1 : Int) (r2 : Bool) (w : World) (h : lockgateref01_Alu.f k a0 a1 a2 a3 = some (r1, r2)) :
 Calls Tryz.prog 35 #[.int .i64 a0, .bool a1, .int .u64 a2, .int .u64 a3] w fun e w' => e = .returned (.tuple #[.int .u64 r1, .bool r2]) ∧ Drawn0 w w' := by
 have H : (if a1 = true then (lockgateref01_Alu.j0 k a0 a2 a3 64) else (lockgateref01_Alu.j0 k a0 a2 a3 32)) = some (r1, r2) := h
 clear h
 have HC5 := Aside0.mk H
 clear H
 go_enter Tryz.func35, Tryz.ntmps35
 go_upto_if 16 with (fail)
 go_cut [10] (fun v10 wc => ∃ (kq : Nat) (x10_4 : Int), v10 = .int .i64 x10_4 ∧ Aside0 (lockgateref01_Alu.j0 kq a0 a2 a3 x10_4 = some (r1, r2)) ∧ Aside0 (kq ≤ k) ∧ Drawn0 w wc)
 case first =>
  have H := HC5.out
  clear HC5
  by_cases c6 : a1 = true
  ·subst c6
   have H1 : (lockgateref01_Alu.j0 k a0 a2 a3 64) = some (r1, r2) := by rw [if_pos rfl] at H; exact H
   clear H
   have H := H1
   clear H1
   have H' := Aside0.mk H
   clear H
   go_wp2
   go_meet
   case rel => exact ⟨_, (64), (by first | rfl | (simp; done) | (simp [*]; done)), H', ⟨by first | omega | exact Nat.le_refl _⟩, by repeat (first | exact Drawn0.refl _ | apply Drawn0.step)⟩
  ·replace c6 := Bool.eq_false_iff.mpr c6
   subst c6
   have H1 : (lockgateref01_Alu.j0 k a0 a2 a3 32) = some (r1, r2) := by rw [if_neg (show ¬ (false = true) by decide)] at H; exact H
   clear H
   have H := H1
   clear H1
   have H' := Aside0.mk H
   clear H
   go_wp2
   go_meet
   case rel => exact ⟨_, (32), (by first | rfl | (simp; done) | (simp [*]; done)), H', ⟨by first | omega | exact Nat.le_refl _⟩, by repeat (first | exact Drawn0.refl _ | apply Drawn0.step)⟩
 case rest =>
  clear HC5
  try clear p2
  try clear c3
  try clear c6
  obtain ⟨kq, x10_4, rfl, HA, HJ4, ⟨mc4, rfl⟩⟩ := hcut
  cases kq with
  | zero => exact absurd HA.out (by simp [lockgateref01_Alu.j0])
  | succ kj4 =>
   have H := HA.out
   clear HA
   simp only [lockgateref01_Alu.j0] at H
   replace H := Option.bind_eq_some_iff.mp H
   obtain ⟨t373, A70, H⟩ := H
   replace H : ((lockgateref01_Low.f a3 x10_4).bind fun t374 => (if (IntKind.u64.wrap (x10_4)) = 0 then (none) else (if a0 = 0 then ((lockgateref01_add.f kj4 t373 t374 0).bind fun t375 => ((lockgateref01_Low.f t375 x10_4).bind fun t376 => (some (t376, true)))) else (if a0 = 1 then ((lockgateref01_not.f kj4 t374).bind fun t377 => ((lockgateref01_add.f kj4 t373 t377 1).bind fun t378 => ((lockgateref01_Low.f t378 x10_4).bind fun t379 => (some (t379, true))))) else (if a0 = 2 then ((lockgateref01_times.f kj4 t373 t374).bind fun t380 => ((lockgateref01_Low.f t380 x10_4).bind fun t381 => (some (t381, true)))) else (if a0 = 3 then (lockgateref01_Alu.j1 kj4 a0 t373 t374 x10_4 (wrap64 (Int.tmod t374 (IntKind.u64.wrap (x10_4)))) a0 (a0 == 3)) else (lockgateref01_Alu.j1 kj4 a0 t373 t374 x10_4 (wrap64 (Int.tmod t374 (IntKind.u64.wrap (x10_4)))) a0 (a0 == 9)))))))) = some (r1, r2) := H
   have A7 := Aside0.mk A70
   clear A70
   replace H := Option.bind_eq_some_iff.mp H
   obtain ⟨t374, A80, H⟩ := H
   replace H : (if (IntKind.u64.wrap (x10_4)) = 0 then (none) else (if a0 = 0 then ((lockgateref01_add.f kj4 t373 t374 0).bind fun t375 => ((lockgateref01_Low.f t375 x10_4).bind fun t376 => (some (t376, true)))) else (if a0 = 1 then ((lockgateref01_not.f kj4 t374).bind fun t377 => ((lockgateref01_add.f kj4 t373 t377 1).bind fun t378 => ((lockgateref01_Low.f t378 x10_4).bind fun t379 => (some (t379, true))))) else (if a0 = 2 then ((lockgateref01_times.f kj4 t373 t374).bind fun t380 => ((lockgateref01_Low.f t380 x10_4).bind fun t381 => (some (t381, true)))) else (if a0 = 3 then (lockgateref01_Alu.j1 kj4 a0 t373 t374 x10_4 (wrap64 (Int.tmod t374 (IntKind.u64.wrap (x10_4)))) a0 (a0 == 3)) else (lockgateref01_Alu.j1 kj4 a0 t373 t374 x10_4 (wrap64 (Int.tmod t374 (IntKind.u64.wrap (x10_4)))) a0 (a0 == 9))))))) = some (r1, r2) := H
   have A8 := Aside0.mk A80
   clear A80
   by_cases c9 : (IntKind.u64.wrap (x10_4)) = 0
   ·rw [if_pos c9] at H
    exact absurd H (by simp)
   ·rw [if_neg c9] at H
    have c9b0 : ((IntKind.u64.wrap (x10_4)) == 0) = false := beq_eq_false_iff_ne.mpr c9
    have c9b1 : ((IntKind.u64.wrap (x10_4)) != 0) = true := bne_iff_ne.mpr c9
    by_cases c10 : a0 = 0
    ·rw [if_pos c10] at H
     have c10b0 : (a0 == 0) = true := beq_iff_eq.mpr c10
     have c10b1 : (a0 != 0) = false := bne_eq_false_iff_eq.mpr c10
     clear c10
     replace H := Option.bind_eq_some_iff.mp H
     obtain ⟨t375, A110, H⟩ := H
     replace H : ((lockgateref01_Low.f t375 x10_4).bind fun t376 => (some (t376, true))) = some (r1, r2) := H
     have A11 := Aside0.mk A110
     clear A110
     replace H := Option.bind_eq_some_iff.mp H
     obtain ⟨t376, A120, H⟩ := H
     replace H : (some (t376, true)) = some (r1, r2) := H
     have A12 := Aside0.mk A120
     clear A120
     simp only [Option.some.injEq, Prod.mk.injEq] at H
     obtain ⟨rfl, rfl⟩ := H
     go_wp2_with (first | ((with_reducible refine gate_callee (f := 115) rfl ?_); refine gM_ 19 Tryz.func115 (lockgateref01_Low.calls a2 x10_4 t373 _ A7.out) ?_; rintro w' ⟨nd, rfl⟩) | ((with_reducible refine gate_callee (f := 115) rfl ?_); refine gM_ 22 Tryz.func115 (lockgateref01_Low.calls a3 x10_4 t374 _ A8.out) ?_; rintro w' ⟨nd, rfl⟩) | ((with_reducible refine gate_callee (f := 116) rfl ?_); refine gM_ 33 Tryz.func116 (lockgateref01_add.calls kj4 t373 t374 0 t375 _ A11.out) ?_; rintro w' ⟨nd, rfl⟩) | ((with_reducible refine gate_callee (f := 115) rfl ?_); refine gM_ 101 Tryz.func115 (lockgateref01_Low.calls t375 x10_4 t376 _ A12.out) ?_; rintro w' ⟨nd, rfl⟩))
     go_ret2
     exact ⟨by first | rfl | (simp; done) | (simp [*]; done), by repeat (first | exact Drawn0.refl _ | apply Drawn0.step)⟩
    ·rw [if_neg c10] at H
     have c10b0 : (a0 == 0) = false := beq_eq_false_iff_ne.mpr c10
     have c10b1 : (a0 != 0) = true := bne_iff_ne.mpr c10
     by_cases c13 : a0 = 1
     ·rw [if_pos c13] at H
      have c13b0 : (a0 == 1) = true := beq_iff_eq.mpr c13
      have c13b1 : (a0 != 1) = false := bne_eq_false_iff_eq.mpr c13
      clear c13
      replace H := Option.bind_eq_some_iff.mp H
      obtain ⟨t377, A140, H⟩ := H
      replace H : ((lockgateref01_add.f kj4 t373 t377 1).bind fun t378 => ((lockgateref01_Low.f t378 x10_4).bind fun t379 => (some (t379, true)))) = some (r1, r2) := H
      have A14 := Aside0.mk A140
      clear A140
      replace H := Option.bind_eq_some_iff.mp H
      obtain ⟨t378, A150, H⟩ := H
      replace H : ((lockgateref01_Low.f t378 x10_4).bind fun t379 => (some (t379, true))) = some (r1, r2) := H
      have A15 := Aside0.mk A150
      clear A150
      replace H := Option.bind_eq_some_iff.mp H
      obtain ⟨t379, A160, H⟩ := H
      replace H : (some (t379, true)) = some (r1, r2) := H
      have A16 := Aside0.mk A160
      clear A160
      simp only [Option.some.injEq, Prod.mk.injEq] at H
      obtain ⟨rfl, rfl⟩ := H
      go_wp2_with (first | ((with_reducible refine gate_callee (f := 115) rfl ?_); refine gM_ 19 Tryz.func115 (lockgateref01_Low.calls a2 x10_4 t373 _ A7.out) ?_; rintro w' ⟨nd, rfl⟩) | ((with_reducible refine gate_callee (f := 115) rfl ?_); refine gM_ 22 Tryz.func115 (lockgateref01_Low.calls a3 x10_4 t374 _ A8.out) ?_; rintro w' ⟨nd, rfl⟩) | ((with_reducible refine gate_callee (f := 117) rfl ?_); refine gM_ 38 Tryz.func117 (lockgateref01_not.calls kj4 t374 t377 _ A14.out) ?_; rintro w' ⟨nd, rfl⟩) | ((with_reducible refine gate_callee (f := 116) rfl ?_); refine gM_ 39 Tryz.func116 (lockgateref01_add.calls kj4 t373 t377 1 t378 _ A15.out) ?_; rintro w' ⟨nd, rfl⟩) | ((with_reducible refine gate_callee (f := 115) rfl ?_); refine gM_ 101 Tryz.func115 (lockgateref01_Low.calls t378 x10_4 t379 _ A16.out) ?_; rintro w' ⟨nd, rfl⟩))
      go_ret2
      exact ⟨by first | rfl | (simp; done) | (simp [*]; done), by repeat (first | exact Drawn0.refl _ | apply Drawn0.step)⟩
     ·rw [if_neg c13] at H
      have c13b0 : (a0 == 1) = false := beq_eq_false_iff_ne.mpr c13
      have c13b1 : (a0 != 1) = true := bne_iff_ne.mpr c13
      by_cases c17 : a0 = 2
      ·rw [if_pos c17] at H
       have c17b0 : (a0 == 2) = true := beq_iff_eq.mpr c17
       have c17b1 : (a0 != 2) = false := bne_eq_false_iff_eq.mpr c17
       clear c17
       replace H := Option.bind_eq_some_iff.mp H
       obtain ⟨t380, A180, H⟩ := H
       replace H : ((lockgateref01_Low.f t380 x10_4).bind fun t381 => (some (t381, true))) = some (r1, r2) := H
       have A18 := Aside0.mk A180
       clear A180
       replace H := Option.bind_eq_some_iff.mp H
       obtain ⟨t381, A190, H⟩ := H
       replace H : (some (t381, true)) = some (r1, r2) := H
       have A19 := Aside0.mk A190
       clear A190
       simp only [Option.some.injEq, Prod.mk.injEq] at H
       obtain ⟨rfl, rfl⟩ := H
       go_wp2_with (first | ((with_reducible refine gate_callee (f := 115) rfl ?_); refine gM_ 19 Tryz.func115 (lockgateref01_Low.calls a2 x10_4 t373 _ A7.out) ?_; rintro w' ⟨nd, rfl⟩) | ((with_reducible refine gate_callee (f := 115) rfl ?_); refine gM_ 22 Tryz.func115 (lockgateref01_Low.calls a3 x10_4 t374 _ A8.out) ?_; rintro w' ⟨nd, rfl⟩) | ((with_reducible refine gate_callee (f := 118) rfl ?_); refine gM_ 44 Tryz.func118 (lockgateref01_times.calls kj4 t373 t374 t380 _ A18.out) ?_; rintro w' ⟨nd, rfl⟩) | ((with_reducible refine gate_callee (f := 115) rfl ?_); refine gM_ 101 Tryz.func115 (lockgateref01_Low.calls t380 x10_4 t381 _ A19.out) ?_; rintro w' ⟨nd, rfl⟩))
       go_ret2
       exact ⟨by first | rfl | (simp; done) | (simp [*]; done), by repeat (first | exact Drawn0.refl _ | apply Drawn0.step)⟩
      ·rw [if_neg c17] at H
       have c17b0 : (a0 == 2) = false := beq_eq_false_iff_ne.mpr c17
       have c17b1 : (a0 != 2) = true := bne_iff_ne.mpr c17
       have HC20 := Aside0.mk H
       clear H
       go_upto_if 45 with (first | ((with_reducible refine gate_callee (f := 115) rfl ?_); refine gM_ 19 Tryz.func115 (lockgateref01_Low.calls a2 x10_4 t373 _ A7.out) ?_; rintro w' ⟨nd, rfl⟩) | ((with_reducible refine gate_callee (f := 115) rfl ?_); refine gM_ 22 Tryz.func115 (lockgateref01_Low.calls a3 x10_4 t374 _ A8.out) ?_; rintro w' ⟨nd, rfl⟩))
       (try simp only [Act.put, s1_, s2_, s3_])
       go_cut [45] (fun v45 wc => ∃ (kq : Nat) (x45_19 : Bool), v45 = .bool x45_19 ∧ Aside0 (lockgateref01_Alu.j1 kq a0 t373 t374 x10_4 (wrap64 (Int.tmod t374 (IntKind.u64.wrap (x10_4)))) a0 x45_19 = some (r1, r2)) ∧ Aside0 (kq ≤ kj4) ∧ Drawn0 w wc)
       case first =>
        have H := HC20.out
        clear HC20
        by_cases c21 : a0 = 3
        ·rw [if_pos c21] at H
         have c21b0 : (a0 == 3) = true := beq_iff_eq.mpr c21
         have c21b1 : (a0 != 3) = false := bne_eq_false_iff_eq.mpr c21
         clear c21
         (first | rw [c21b0] | (simp only [i64_w, i32_w]; rw [c21b0]) | skip)
         have H' := Aside0.mk H
         clear H
         go_wp2
         go_meet
         case rel => exact ⟨_, ((a0 == 3)), (by first | rfl | (simp; done) | (simp [*]; done)), H', ⟨by have := HJ4.out; first | omega | exact Nat.le_refl _⟩, by repeat (first | exact Drawn0.refl _ | apply Drawn0.step)⟩
        ·rw [if_neg c21] at H
         have c21b0 : (a0 == 3) = false := beq_eq_false_iff_ne.mpr c21
         have c21b1 : (a0 != 3) = true := bne_iff_ne.mpr c21
         (first | rw [c21b0] | (simp only [i64_w, i32_w]; rw [c21b0]) | skip)
         have H' := Aside0.mk H
         clear H
         go_wp2
         go_meet
         case rel => exact ⟨_, ((a0 == 9)), (by first | rfl | (simp; done) | (simp [*]; done)), H', ⟨by have := HJ4.out; first | omega | exact Nat.le_refl _⟩, by repeat (first | exact Drawn0.refl _ | apply Drawn0.step)⟩
       case rest =>
        clear HC20
        try clear c1
        try clear c2
        try clear p2
        try clear c3
        try clear c4
        try clear c6
        try clear p6
        try clear c9
        try clear c9b0
        try clear c9b1
        try clear c10
        try clear c10b0
        try clear c10b1
        try clear c11
        try clear c13
        try clear c13b0
        try clear c13b1
        try clear c17
        try clear c17b0
        try clear c17b1
        try clear c21
        try clear c21b0
        try clear c21b1
        try clear p2
        obtain ⟨kq, x45_19, rfl, HA, HJ19, ⟨mc19, rfl⟩⟩ := hcut
        cases kq with
        | zero => exact absurd HA.out (by simp [lockgateref01_Alu.j1])
        | succ kj19 =>
         have H := HA.out
         clear HA
         simp only [lockgateref01_Alu.j1] at H
         by_cases c22 : x45_19 = true
         ·subst c22
          have H1 : (if t374 > 0 then ((lockgateref01_divide.f kj19 t373 t374).bind fun bt382 => (if a0 = 9 then ((lockgateref01_Low.f bt382.2 x10_4).bind fun t384 => (some (t384, true))) else ((lockgateref01_Low.f bt382.1 x10_4).bind fun t385 => (some (t385, true))))) else (if a0 = 9 then ((lockgateref01_Low.f t373 x10_4).bind fun t386 => (some (t386, true))) else ((lockgateref01_Low.f 0 x10_4).bind fun t387 => (some (t387, true))))) = some (r1, r2) := by rw [if_pos rfl] at H; exact H
          clear H
          have H := H1
          clear H1
          by_cases c23 : t374 > 0
          ·rw [if_pos c23] at H
           have c23b0 : decide (0 < t374) = true := decide_eq_true c23
           clear c23
           replace H := Option.bind_eq_some_iff.mp H
           obtain ⟨⟨t382, t383⟩, A240, H⟩ := H
           replace H : (if a0 = 9 then ((lockgateref01_Low.f t383 x10_4).bind fun t384 => (some (t384, true))) else ((lockgateref01_Low.f t382 x10_4).bind fun t385 => (some (t385, true)))) = some (r1, r2) := H
           have A24 := Aside0.mk A240
           clear A240
           by_cases c25 : a0 = 9
           ·rw [if_pos c25] at H
            have c25b0 : (a0 == 9) = true := beq_iff_eq.mpr c25
            have c25b1 : (a0 != 9) = false := bne_eq_false_iff_eq.mpr c25
            clear c25
            replace H := Option.bind_eq_some_iff.mp H
            obtain ⟨t384, A260, H⟩ := H
            replace H : (some (t384, true)) = some (r1, r2) := H
            have A26 := Aside0.mk A260
            clear A260
            simp only [Option.some.injEq, Prod.mk.injEq] at H
            obtain ⟨rfl, rfl⟩ := H
            go_wp2_with (first | ((with_reducible refine gate_callee (f := 119) rfl ?_); refine gM_ 54 Tryz.func119 (lockgateref01_divide.calls kj19 t373 t374 t382 t383 _ A24.out) ?_; rintro w' ⟨nd, rfl⟩) | ((with_reducible refine gate_callee (f := 115) rfl ?_); refine gM_ 101 Tryz.func115 (lockgateref01_Low.calls t383 x10_4 t384 _ A26.out) ?_; rintro w' ⟨nd, rfl⟩))
            go_ret2
            exact ⟨by first | rfl | (simp; done) | (simp [*]; done), by repeat (first | exact Drawn0.refl _ | apply Drawn0.step)⟩
           ·rw [if_neg c25] at H
            have c25b0 : (a0 == 9) = false := beq_eq_false_iff_ne.mpr c25
            have c25b1 : (a0 != 9) = true := bne_iff_ne.mpr c25
            replace H := Option.bind_eq_some_iff.mp H
            obtain ⟨t385, A270, H⟩ := H
            replace H : (some (t385, true)) = some (r1, r2) := H
            have A27 := Aside0.mk A270
            clear A270
            simp only [Option.some.injEq, Prod.mk.injEq] at H
            obtain ⟨rfl, rfl⟩ := H
            go_wp2_with (first | ((with_reducible refine gate_callee (f := 119) rfl ?_); refine gM_ 54 Tryz.func119 (lockgateref01_divide.calls kj19 t373 t374 t382 t383 _ A24.out) ?_; rintro w' ⟨nd, rfl⟩) | ((with_reducible refine gate_callee (f := 115) rfl ?_); refine gM_ 101 Tryz.func115 (lockgateref01_Low.calls t382 x10_4 t385 _ A27.out) ?_; rintro w' ⟨nd, rfl⟩))
            go_ret2
            exact ⟨by first | rfl | (simp; done) | (simp [*]; done), by repeat (first | exact Drawn0.refl _ | apply Drawn0.step)⟩
          ·rw [if_neg c23] at H
           have c23b0 : decide (0 < t374) = false := decide_eq_false c23
           clear c23
           by_cases c28 : a0 = 9
           ·rw [if_pos c28] at H
            have c28b0 : (a0 == 9) = true := beq_iff_eq.mpr c28
            have c28b1 : (a0 != 9) = false := bne_eq_false_iff_eq.mpr c28
            clear c28
            replace H := Option.bind_eq_some_iff.mp H
            obtain ⟨t386, A290, H⟩ := H
            replace H : (some (t386, true)) = some (r1, r2) := H
            have A29 := Aside0.mk A290
            clear A290
            simp only [Option.some.injEq, Prod.mk.injEq] at H
            obtain ⟨rfl, rfl⟩ := H
            go_wp2_with (first | ((with_reducible refine gate_callee (f := 115) rfl ?_); refine gM_ 101 Tryz.func115 (lockgateref01_Low.calls t373 x10_4 t386 _ A29.out) ?_; rintro w' ⟨nd, rfl⟩))
            go_ret2
            exact ⟨by first | rfl | (simp; done) | (simp [*]; done), by repeat (first | exact Drawn0.refl _ | apply Drawn0.step)⟩
           ·rw [if_neg c28] at H
            have c28b0 : (a0 == 9) = false := beq_eq_false_iff_ne.mpr c28
            have c28b1 : (a0 != 9) = true := bne_iff_ne.mpr c28
            replace H := Option.bind_eq_some_iff.mp H
            obtain ⟨t387, A300, H⟩ := H
            replace H : (some (t387, true)) = some (r1, r2) := H
            have A30 := Aside0.mk A300
            clear A300
            simp only [Option.some.injEq, Prod.mk.injEq] at H
            obtain ⟨rfl, rfl⟩ := H
            go_wp2_with (first | ((with_reducible refine gate_callee (f := 115) rfl ?_); refine gM_ 101 Tryz.func115 (lockgateref01_Low.calls 0 x10_4 t387 _ A30.out) ?_; rintro w' ⟨nd, rfl⟩))
            go_ret2
            exact ⟨by first | rfl | (simp; done) | (simp [*]; done), by repeat (first | exact Drawn0.refl _ | apply Drawn0.step)⟩
         ·replace c22 := Bool.eq_false_iff.mpr c22
          subst c22
          have H1 : (if a0 = 4 then (lockgateref01_Alu.j2 kj19 a0 t373 t374 x10_4 (wrap64 (Int.tmod t374 (IntKind.u64.wrap (x10_4)))) a0 (a0 == 4)) else (if a0 = 5 then (lockgateref01_Alu.j2 kj19 a0 t373 t374 x10_4 (wrap64 (Int.tmod t374 (IntKind.u64.wrap (x10_4)))) a0 (a0 == 5)) else (lockgateref01_Alu.j2 kj19 a0 t373 t374 x10_4 (wrap64 (Int.tmod t374 (IntKind.u64.wrap (x10_4)))) a0 (a0 == 10)))) = some (r1, r2) := by rw [if_neg (show ¬ (false = true) by decide)] at H; exact H
          clear H
          have H := H1
          clear H1
          have HC31 := Aside0.mk H
          clear H
          go_upto_if 61 with (fail)
          go_cut [61] (fun v61 wc => ∃ (kq : Nat) (x61_30 : Bool), v61 = .bool x61_30 ∧ Aside0 (lockgateref01_Alu.j2 kq a0 t373 t374 x10_4 (wrap64 (Int.tmod t374 (IntKind.u64.wrap (x10_4)))) a0 x61_30 = some (r1, r2)) ∧ Aside0 (kq ≤ kj19) ∧ Drawn0 w wc)
          case first =>
           have H := HC31.out
           clear HC31
           by_cases c32 : a0 = 4
           ·rw [if_pos c32] at H
            have c32b0 : (a0 == 4) = true := beq_iff_eq.mpr c32
            have c32b1 : (a0 != 4) = false := bne_eq_false_iff_eq.mpr c32
            clear c32
            (first | rw [c32b0] | (simp only [i64_w, i32_w]; rw [c32b0]) | skip)
            have H' := Aside0.mk H
            clear H
            go_wp2
            go_meet
            case rel => exact ⟨_, ((a0 == 4)), (by first | rfl | (simp; done) | (simp [*]; done)), H', ⟨by have := HJ4.out; have := HJ19.out; first | omega | exact Nat.le_refl _⟩, by repeat (first | exact Drawn0.refl _ | apply Drawn0.step)⟩
           ·rw [if_neg c32] at H
            have c32b0 : (a0 == 4) = false := beq_eq_false_iff_ne.mpr c32
            have c32b1 : (a0 != 4) = true := bne_iff_ne.mpr c32
            (first | rw [c32b0] | (simp only [i64_w, i32_w]; rw [c32b0]) | skip)
            by_cases c33 : a0 = 5
            ·rw [if_pos c33] at H
             have c33b0 : (a0 == 5) = true := beq_iff_eq.mpr c33
             have c33b1 : (a0 != 5) = false := bne_eq_false_iff_eq.mpr c33
             clear c33
             have H' := Aside0.mk H
             clear H
             go_wp2
             go_meet
             case rel => exact ⟨_, ((a0 == 5)), (by first | rfl | (simp; done) | (simp [*]; done)), H', ⟨by have := HJ4.out; have := HJ19.out; first | omega | exact Nat.le_refl _⟩, by repeat (first | exact Drawn0.refl _ | apply Drawn0.step)⟩
            ·rw [if_neg c33] at H
             have c33b0 : (a0 == 5) = false := beq_eq_false_iff_ne.mpr c33
             have c33b1 : (a0 != 5) = true := bne_iff_ne.mpr c33
             have H' := Aside0.mk H
             clear H
             go_wp2
             go_meet
             case rel => exact ⟨_, ((a0 == 10)), (by first | rfl | (simp; done) | (simp [*]; done)), H', ⟨by have := HJ4.out; have := HJ19.out; first | omega | exact Nat.le_refl _⟩, by repeat (first | exact Drawn0.refl _ | apply Drawn0.step)⟩
          case rest =>
           clear HC31
           try clear c1
           try clear c2
           try clear p2
           try clear c3
           try clear c4
           try clear c6
           try clear p6
           try clear c9
           try clear c9b0
           try clear c9b1
           try clear c10
           try clear c10b0
           try clear c10b1
           try clear c11
           try clear c13
           try clear c13b0
           try clear c13b1
           try clear c17
           try clear c17b0
           try clear c17b1
           try clear c19
           try clear c21
           try clear c21b0
           try clear c21b1
           try clear c22
           try clear c23
           try clear c23b0
           try clear c25
           try clear c25b0
           try clear c25b1
           try clear c28
           try clear c28b0
           try clear c28b1
           try clear c32
           try clear c32b0
           try clear c32b1
           try clear c33
           try clear c33b0
           try clear c33b1
           try clear p2
           try clear p6
           obtain ⟨kq, x61_30, rfl, HA, HJ30, ⟨mc30, rfl⟩⟩ := hcut
           cases kq with
           | zero => exact absurd HA.out (by simp [lockgateref01_Alu.j2])
           | succ kj30 =>
            have H := HA.out
            clear HA
            simp only [lockgateref01_Alu.j2] at H
            by_cases c34 : x61_30 = true
            ·subst c34
             have H1 : ((lockgateref01_bits.f kj30 a0 t373 t374).bind fun t388 => ((lockgateref01_Low.f t388 x10_4).bind fun t389 => (some (t389, true)))) = some (r1, r2) := by rw [if_pos rfl] at H; exact H
             clear H
             have H := H1
             clear H1
             replace H := Option.bind_eq_some_iff.mp H
             obtain ⟨t388, A350, H⟩ := H
             replace H : ((lockgateref01_Low.f t388 x10_4).bind fun t389 => (some (t389, true))) = some (r1, r2) := H
             have A35 := Aside0.mk A350
             clear A350
             replace H := Option.bind_eq_some_iff.mp H
             obtain ⟨t389, A360, H⟩ := H
             replace H : (some (t389, true)) = some (r1, r2) := H
             have A36 := Aside0.mk A360
             clear A360
             simp only [Option.some.injEq, Prod.mk.injEq] at H
             obtain ⟨rfl, rfl⟩ := H
             go_wp2_with (first | ((with_reducible refine gate_callee (f := 120) rfl ?_); refine gM_ 68 Tryz.func120 (lockgateref01_bits.calls kj30 a0 t373 t374 t388 _ A35.out) ?_; rintro w' ⟨nd, rfl⟩) | ((with_reducible refine gate_callee (f := 115) rfl ?_); refine gM_ 101 Tryz.func115 (lockgateref01_Low.calls t388 x10_4 t389 _ A36.out) ?_; rintro w' ⟨nd, rfl⟩))
             go_ret2
             exact ⟨by first | rfl | (simp; done) | (simp [*]; done), by repeat (first | exact Drawn0.refl _ | apply Drawn0.step)⟩
            ·replace c34 := Bool.eq_false_iff.mpr c34
             subst c34
             have H1 : (if a0 = 6 then (if 0 ≤ (IntKind.u64.wrap ((wrap64 (Int.tmod t374 (IntKind.u64.wrap (x10_4)))))) then ((lockgateref01_Low.f (shl .u64 t373 (IntKind.u64.wrap ((wrap64 (Int.tmod t374 (IntKind.u64.wrap (x10_4))))))) x10_4).bind fun t390 => (some (t390, true))) else (none)) else (if a0 = 7 then ((lockgateref01_down.f kj30 t373 (wrap64 (Int.tmod t374 (IntKind.u64.wrap (x10_4)))) x10_4 0).bind fun t391 => ((lockgateref01_Low.f t391 x10_4).bind fun t392 => (some (t392, true)))) else (if a0 = 8 then ((lockgateref01_not.f kj30 t373).bind fun t393 => ((lockgateref01_add.f kj30 0 t393 1).bind fun t394 => ((lockgateref01_Low.f t394 x10_4).bind fun t395 => (some (t395, true))))) else (if a0 = 11 then ((lockgateref01_Low.f t374 x10_4).bind fun t396 => (some (t396, true))) else (if a0 = 12 then ((lockgateref01_bit.f t373 (wrap64 (x10_4 - 1))).bind fun t397 => ((lockgateref01_down.f kj30 t373 (wrap64 (Int.tmod t374 (IntKind.u64.wrap (x10_4)))) x10_4 t397).bind fun t398 => ((lockgateref01_Low.f t398 x10_4).bind fun t399 => (some (t399, true))))) else (some (0, false))))))) = some (r1, r2) := by rw [if_neg (show ¬ (false = true) by decide)] at H; exact H
             clear H
             have H := H1
             clear H1
             by_cases c37 : a0 = 6
             ·rw [if_pos c37] at H
              have c37b0 : (a0 == 6) = true := beq_iff_eq.mpr c37
              have c37b1 : (a0 != 6) = false := bne_eq_false_iff_eq.mpr c37
              clear c37
              obtain ⟨ji38, hji38⟩ : ∃ j_ : Int, (IntKind.u64.wrap ((wrap64 (Int.tmod t374 (IntKind.u64.wrap (x10_4)))))) = j_ := ⟨_, rfl⟩
              replace H : (if 0 ≤ (ji38) then ((lockgateref01_Low.f (shl .u64 t373 (ji38)) x10_4).bind fun t390 => (some (t390, true))) else (none)) = some (r1, r2) := by first | (rw [hji38] at H; exact H) | (simp only [hji38] at H ⊢; exact H)
              by_cases c39 : 0 ≤ (ji38)
              ·rw [if_pos c39] at H
               have c39b0 := eq_true c39
               have c39b1 : decide (0 ≤ (ji38)) = true := decide_eq_true c39
               clear c39
               obtain ⟨ji40, hji40⟩ : ∃ j_ : Int, (shl .u64 t373 (ji38)) = j_ := ⟨_, rfl⟩
               replace H : ((lockgateref01_Low.f (ji40) x10_4).bind fun t390 => (some (t390, true))) = some (r1, r2) := by first | (rw [hji40] at H; exact H) | (simp only [hji40] at H ⊢; exact H)
               have hji40_ : (IntKind.u64.wrap (t373 * 2 ^ min (ji38).toNat 64)) = ji40 := hji40
               have hji40z : (ji38) ≤ 64 → (IntKind.u64.wrap (t373 * 2 ^ (ji38).toNat)) = ji40 := shl_small hji40
               replace H := Option.bind_eq_some_iff.mp H
               obtain ⟨t390, A410, H⟩ := H
               replace H : (some (t390, true)) = some (r1, r2) := H
               have A41 := Aside0.mk A410
               clear A410
               simp only [Option.some.injEq, Prod.mk.injEq] at H
               obtain ⟨rfl, rfl⟩ := H
               go_wp2_with (first | ((with_reducible refine gate_callee (f := 115) rfl ?_); refine goesL_ (some 101) rfl rfl Tryz.func115 (by kernel_rfl) rfl #[.int .u64 ji40, .int .i64 x10_4] rfl (by (try simp only [List.map_toArray, List.map_cons, List.map_nil]); first | done | (simp only [hji40]; rfl) | rfl | (simp only [List.length_drop, List.length_take]; rfl)) ?_; (with_reducible refine (lockgateref01_Low.calls ji40 x10_4 t390 _ A41.out).mono ?_); rintro e w' ⟨rfl, ⟨nd, rfl⟩⟩; refine ⟨_, rfl, ?_⟩))
               go_ret2
               exact ⟨by first | rfl | (simp; done) | (simp only [← hji38, ← hji40] <;> (first | rfl | simp)) | (simp [*]; done), by repeat (first | exact Drawn0.refl _ | apply Drawn0.step)⟩
              ·rw [if_neg c39] at H
               exact absurd H (by simp)
             ·rw [if_neg c37] at H
              have c37b0 : (a0 == 6) = false := beq_eq_false_iff_ne.mpr c37
              have c37b1 : (a0 != 6) = true := bne_iff_ne.mpr c37
              by_cases c42 : a0 = 7
              ·rw [if_pos c42] at H
               have c42b0 : (a0 == 7) = true := beq_iff_eq.mpr c42
               have c42b1 : (a0 != 7) = false := bne_eq_false_iff_eq.mpr c42
               clear c42
               replace H := Option.bind_eq_some_iff.mp H
               obtain ⟨t391, A430, H⟩ := H
               replace H : ((lockgateref01_Low.f t391 x10_4).bind fun t392 => (some (t392, true))) = some (r1, r2) := H
               have A43 := Aside0.mk A430
               clear A430
               replace H := Option.bind_eq_some_iff.mp H
               obtain ⟨t392, A440, H⟩ := H
               replace H : (some (t392, true)) = some (r1, r2) := H
               have A44 := Aside0.mk A440
               clear A440
               simp only [Option.some.injEq, Prod.mk.injEq] at H
               obtain ⟨rfl, rfl⟩ := H
               go_wp2_with (first | ((with_reducible refine gate_callee (f := 121) rfl ?_); refine goesL_ (some 80) rfl rfl Tryz.func121 (by kernel_rfl) rfl #[.int .u64 t373, .int .i64 (wrap64 (Int.tmod t374 (IntKind.u64.wrap (x10_4)))), .int .i64 x10_4, .int .u64 0] rfl mp_ ?_; (with_reducible refine (lockgateref01_down.calls kj30 t373 (wrap64 (Int.tmod t374 (IntKind.u64.wrap (x10_4)))) x10_4 0 t391 _ A43.out).mono ?_); rintro e w' ⟨rfl, ⟨nd, rfl⟩⟩; refine ⟨_, rfl, ?_⟩) | ((with_reducible refine gate_callee (f := 115) rfl ?_); refine gM_ 101 Tryz.func115 (lockgateref01_Low.calls t391 x10_4 t392 _ A44.out) ?_; rintro w' ⟨nd, rfl⟩))
               go_ret2
               exact ⟨by first | rfl | (simp; done) | (simp [*]; done), by repeat (first | exact Drawn0.refl _ | apply Drawn0.step)⟩
              ·rw [if_neg c42] at H
               have c42b0 : (a0 == 7) = false := beq_eq_false_iff_ne.mpr c42
               have c42b1 : (a0 != 7) = true := bne_iff_ne.mpr c42
               by_cases c45 : a0 = 8
               ·rw [if_pos c45] at H
                have c45b0 : (a0 == 8) = true := beq_iff_eq.mpr c45
                have c45b1 : (a0 != 8) = false := bne_eq_false_iff_eq.mpr c45
                clear c45
                replace H := Option.bind_eq_some_iff.mp H
                obtain ⟨t393, A460, H⟩ := H
                replace H : ((lockgateref01_add.f kj30 0 t393 1).bind fun t394 => ((lockgateref01_Low.f t394 x10_4).bind fun t395 => (some (t395, true)))) = some (r1, r2) := H
                have A46 := Aside0.mk A460
                clear A460
                replace H := Option.bind_eq_some_iff.mp H
                obtain ⟨t394, A470, H⟩ := H
                replace H : ((lockgateref01_Low.f t394 x10_4).bind fun t395 => (some (t395, true))) = some (r1, r2) := H
                have A47 := Aside0.mk A470
                clear A470
                replace H := Option.bind_eq_some_iff.mp H
                obtain ⟨t395, A480, H⟩ := H
                replace H : (some (t395, true)) = some (r1, r2) := H
                have A48 := Aside0.mk A480
                clear A480
                simp only [Option.some.injEq, Prod.mk.injEq] at H
                obtain ⟨rfl, rfl⟩ := H
                go_wp2_with (first | ((with_reducible refine gate_callee (f := 117) rfl ?_); refine gM_ 84 Tryz.func117 (lockgateref01_not.calls kj30 t373 t393 _ A46.out) ?_; rintro w' ⟨nd, rfl⟩) | ((with_reducible refine gate_callee (f := 116) rfl ?_); refine gM_ 85 Tryz.func116 (lockgateref01_add.calls kj30 0 t393 1 t394 _ A47.out) ?_; rintro w' ⟨nd, rfl⟩) | ((with_reducible refine gate_callee (f := 115) rfl ?_); refine gM_ 101 Tryz.func115 (lockgateref01_Low.calls t394 x10_4 t395 _ A48.out) ?_; rintro w' ⟨nd, rfl⟩))
                go_ret2
                exact ⟨by first | rfl | (simp; done) | (simp [*]; done), by repeat (first | exact Drawn0.refl _ | apply Drawn0.step)⟩
               ·rw [if_neg c45] at H
                have c45b0 : (a0 == 8) = false := beq_eq_false_iff_ne.mpr c45
                have c45b1 : (a0 != 8) = true := bne_iff_ne.mpr c45
                by_cases c49 : a0 = 11
                ·rw [if_pos c49] at H
                 have c49b0 : (a0 == 11) = true := beq_iff_eq.mpr c49
                 have c49b1 : (a0 != 11) = false := bne_eq_false_iff_eq.mpr c49
                 clear c49
                 replace H := Option.bind_eq_some_iff.mp H
                 obtain ⟨t396, A500, H⟩ := H
                 replace H : (some (t396, true)) = some (r1, r2) := H
                 have A50 := Aside0.mk A500
                 clear A500
                 simp only [Option.some.injEq, Prod.mk.injEq] at H
                 obtain ⟨rfl, rfl⟩ := H
                 go_wp2_with (first | ((with_reducible refine gate_callee (f := 115) rfl ?_); refine gM_ 101 Tryz.func115 (lockgateref01_Low.calls t374 x10_4 t396 _ A50.out) ?_; rintro w' ⟨nd, rfl⟩))
                 go_ret2
                 exact ⟨by first | rfl | (simp; done) | (simp [*]; done), by repeat (first | exact Drawn0.refl _ | apply Drawn0.step)⟩
                ·rw [if_neg c49] at H
                 have c49b0 : (a0 == 11) = false := beq_eq_false_iff_ne.mpr c49
                 have c49b1 : (a0 != 11) = true := bne_iff_ne.mpr c49
                 by_cases c51 : a0 = 12
                 ·rw [if_pos c51] at H
                  have c51b0 : (a0 == 12) = true := beq_iff_eq.mpr c51
                  have c51b1 : (a0 != 12) = false := bne_eq_false_iff_eq.mpr c51
                  clear c51
                  replace H := Option.bind_eq_some_iff.mp H
                  obtain ⟨t397, A520, H⟩ := H
                  replace H : ((lockgateref01_down.f kj30 t373 (wrap64 (Int.tmod t374 (IntKind.u64.wrap (x10_4)))) x10_4 t397).bind fun t398 => ((lockgateref01_Low.f t398 x10_4).bind fun t399 => (some (t399, true)))) = some (r1, r2) := H
                  have A52 := Aside0.mk A520
                  clear A520
                  replace H := Option.bind_eq_some_iff.mp H
                  obtain ⟨t398, A530, H⟩ := H
                  replace H : ((lockgateref01_Low.f t398 x10_4).bind fun t399 => (some (t399, true))) = some (r1, r2) := H
                  have A53 := Aside0.mk A530
                  clear A530
                  replace H := Option.bind_eq_some_iff.mp H
                  obtain ⟨t399, A540, H⟩ := H
                  replace H : (some (t399, true)) = some (r1, r2) := H
                  have A54 := Aside0.mk A540
                  clear A540
                  simp only [Option.some.injEq, Prod.mk.injEq] at H
                  obtain ⟨rfl, rfl⟩ := H
                  go_wp2_with (first | ((with_reducible refine gate_callee (f := 122) rfl ?_); refine gM_ 97 Tryz.func122 (lockgateref01_bit.calls t373 (wrap64 (x10_4 - 1)) t397 _ A52.out) ?_; rintro w' ⟨nd, rfl⟩) | ((with_reducible refine gate_callee (f := 121) rfl ?_); refine goesL_ (some 98) rfl rfl Tryz.func121 (by kernel_rfl) rfl #[.int .u64 t373, .int .i64 (wrap64 (Int.tmod t374 (IntKind.u64.wrap (x10_4)))), .int .i64 x10_4, .int .u64 t397] rfl mp_ ?_; (with_reducible refine (lockgateref01_down.calls kj30 t373 (wrap64 (Int.tmod t374 (IntKind.u64.wrap (x10_4)))) x10_4 t397 t398 _ A53.out).mono ?_); rintro e w' ⟨rfl, ⟨nd, rfl⟩⟩; refine ⟨_, rfl, ?_⟩) | ((with_reducible refine gate_callee (f := 115) rfl ?_); refine gM_ 101 Tryz.func115 (lockgateref01_Low.calls t398 x10_4 t399 _ A54.out) ?_; rintro w' ⟨nd, rfl⟩))
                  go_ret2
                  exact ⟨by first | rfl | (simp; done) | (simp [*]; done), by repeat (first | exact Drawn0.refl _ | apply Drawn0.step)⟩
                 ·rw [if_neg c51] at H
                  have c51b0 : (a0 == 12) = false := beq_eq_false_iff_ne.mpr c51
                  have c51b1 : (a0 != 12) = true := bne_iff_ne.mpr c51
                  simp only [Option.some.injEq, Prod.mk.injEq] at H
                  obtain ⟨rfl, rfl⟩ := H
                  go_wp2
                  go_ret2
                  exact ⟨by first | rfl | (simp; done) | (simp [*]; done), by repeat (first | exact Drawn0.refl _ | apply Drawn0.step)⟩

end Go.Proofs.YtceclodenhgoeaaGreat.PA
