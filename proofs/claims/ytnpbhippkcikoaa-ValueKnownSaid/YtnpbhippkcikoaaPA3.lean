-- PRINTED by print.py (a twelfth state) out of the translation. Not trusted: Lean checks it.
import Derived.Test.YtnpbhippkcikoaaPA0
import Derived.Test.YtnpbhippkcikoaaSq
namespace Go.Proofs.Ytnpbhippkcikoaa.PA
open Go.RowKit Go.Proofs.YtnpbhippkcikoaaW.PrintWords Go.Proofs.YtnpbhippkcikoaaW.PrintLast Go.Proofs.YtnpbhippkcikoaaW.PrintMore
attribute [local go_sem] max2_int min2_int max_two min_two max_three min_three max_four min_four   -- for this text's walks alone
set_option linter.unusedVariables false
set_option linter.unusedSimpArgs false

/-! ### value_Num: function 15 -/
def value_Num.f (a0 : Int) : Option (Int × Int × Int) := some (1, a0, 0)
set_option maxHeartbeats 8000000 in
set_option maxRecDepth 100000 in
theorem value_Num.calls (a0 : Int) (r1 : Int) (r2 : Int) (r3 : Int) (w : World) (h : value_Num.f a0 = some (r1, r2, r3)) :
 Calls Try.prog 15 #[.int .u64 a0] w fun e w' => e = .returned (.agg #[.int .i64 r1, .int .u64 r2, .int .i64 r3]) ∧ Below w.heap.size w w' := by
 have hu24 := Try.underlying24
 have HB := Aside0.mk (Below.refl w.heap.size w)
 have H : (some (1, a0, 0)) = some (r1, r2, r3) := h
 clear h
 simp only [Option.some.injEq, Prod.mk.injEq] at H
 obtain ⟨rfl, rfl, rfl⟩ := H
 go_enter Try.func15, Try.ntmps15
 go_wp2_with (first | ((with_reducible refine gate_dst (N := 2) rfl ?_); refine bx_ 2 #[.int .i64 0, .int .u64 0, .int .i64 0] 24 ?_; intro gb101 hg w2 BK101 hb; have GW101 := bg_ hg; have GE101 := GW101; replace HB := bl_ hb; clear hb hg; obtain ⟨zc3_0, zc3_1, zc3_2, zf3_0, zf3_1, zf3_2⟩ := k3_ BK101))
 refine bodyPost_ret (results_cell_row rfl _ _ gb101 24 #[.int .i64 1, .int .u64 a0, .int .i64 0] (0, 0) _ rfl (by (with_reducible repeat (first | apply bN_ | apply bD_ | apply bA_)); refine blk_put (cs := #[.int .i64 1, .int .u64 a0, .int .i64 0]) ?_ 2 _ rfl; (with_reducible repeat (first | apply bN_ | apply bD_ | apply bA_)); refine blk_put (cs := #[.int .i64 1, .int .u64 0, .int .i64 0]) ?_ 1 _ rfl; (with_reducible repeat (first | apply bN_ | apply bD_ | apply bA_)); refine blk_put (cs := #[.int .i64 0, .int .u64 0, .int .i64 0]) ?_ 0 _ rfl; exact bk_) Try.underlying24 rfl (by kernel_rfl)) rfl ?_
 exact ⟨vv_, bz_⟩

/-! ### word_pure_uint64: function 34 -/
def word_pure_uint64.f (a0 : Int) (a1 : Int) (a2 : Int) (a3 : Int) : Option (Int × Bool) := if a0 = 0 then (some (IntKind.u64.wrap (a1 + a2), true)) else (if a0 = 1 then (some (IntKind.u64.wrap (a1 - a2), true)) else (if a0 = 2 then (some (IntKind.u64.wrap (a1 * a2), true)) else (if a0 = 3 then (if a2 = 0 then (some (0, true)) else (some (IntKind.u64.wrap (Int.tdiv a1 a2), true))) else (if a0 = 9 then (if a2 = 0 then (some (a1, true)) else (some (Int.tmod a1 a2, true))) else (if a0 = 4 then (some (Go.bits .or .u64 a1 a2, true)) else (if a0 = 5 then (some (Go.bits .and .u64 a1 a2, true)) else (if a0 = 10 then (some (Go.bits .xor .u64 a1 a2, true)) else (if a0 = 6 then (if a3 = 0 then (none) else (if 0 ≤ (Int.tmod a2 a3) then (some (shl .u64 a1 (Int.tmod a2 a3), true)) else (none))) else (if a0 = 7 then (if a3 = 0 then (none) else (if 0 ≤ (Int.tmod a2 a3) then (some (shr .u64 a1 (Int.tmod a2 a3), true)) else (none))) else (if a0 = 8 then (some (IntKind.u64.wrap (-a1), true)) else (if a0 = 11 then (some (a2, true)) else (some (0, false)))))))))))))
set_option maxHeartbeats 8000000 in
set_option maxRecDepth 100000 in
theorem word_pure_uint64.calls (a0 : Int) (a1 : Int) (a2 : Int) (a3 : Int) (r1 : Int) (r2 : Bool) (w : World) (h : word_pure_uint64.f a0 a1 a2 a3 = some (r1, r2)) :
 Calls Try.prog 34 #[.int .i64 a0, .int .u64 a1, .int .u64 a2, .int .u64 a3] w fun e w' => e = .returned (.tuple #[.int .u64 r1, .bool r2]) ∧ Drawn0 w w' := by
 have H : (if a0 = 0 then (some (IntKind.u64.wrap (a1 + a2), true)) else (if a0 = 1 then (some (IntKind.u64.wrap (a1 - a2), true)) else (if a0 = 2 then (some (IntKind.u64.wrap (a1 * a2), true)) else (if a0 = 3 then (if a2 = 0 then (some (0, true)) else (some (IntKind.u64.wrap (Int.tdiv a1 a2), true))) else (if a0 = 9 then (if a2 = 0 then (some (a1, true)) else (some (Int.tmod a1 a2, true))) else (if a0 = 4 then (some (Go.bits .or .u64 a1 a2, true)) else (if a0 = 5 then (some (Go.bits .and .u64 a1 a2, true)) else (if a0 = 10 then (some (Go.bits .xor .u64 a1 a2, true)) else (if a0 = 6 then (if a3 = 0 then (none) else (if 0 ≤ (Int.tmod a2 a3) then (some (shl .u64 a1 (Int.tmod a2 a3), true)) else (none))) else (if a0 = 7 then (if a3 = 0 then (none) else (if 0 ≤ (Int.tmod a2 a3) then (some (shr .u64 a1 (Int.tmod a2 a3), true)) else (none))) else (if a0 = 8 then (some (IntKind.u64.wrap (-a1), true)) else (if a0 = 11 then (some (a2, true)) else (some (0, false)))))))))))))) = some (r1, r2) := h
 clear h
 by_cases c5 : a0 = 0
 ·rw [if_pos c5] at H
  have c5b0 : (a0 == 0) = true := beq_iff_eq.mpr c5
  have c5b1 : (a0 != 0) = false := bne_eq_false_iff_eq.mpr c5
  clear c5
  simp only [Option.some.injEq, Prod.mk.injEq] at H
  obtain ⟨rfl, rfl⟩ := H
  go_enter Try.func34, Try.ntmps34
  go_wp2
  go_ret2
  exact ⟨by first | rfl | (simp; done) | (simp [*]; done), by repeat (first | exact Drawn0.refl _ | apply Drawn0.step)⟩
 ·rw [if_neg c5] at H
  have c5b0 : (a0 == 0) = false := beq_eq_false_iff_ne.mpr c5
  have c5b1 : (a0 != 0) = true := bne_iff_ne.mpr c5
  by_cases c6 : a0 = 1
  ·rw [if_pos c6] at H
   have c6b0 : (a0 == 1) = true := beq_iff_eq.mpr c6
   have c6b1 : (a0 != 1) = false := bne_eq_false_iff_eq.mpr c6
   clear c6
   simp only [Option.some.injEq, Prod.mk.injEq] at H
   obtain ⟨rfl, rfl⟩ := H
   go_enter Try.func34, Try.ntmps34
   go_wp2
   go_ret2
   exact ⟨by first | rfl | (simp; done) | (simp [*]; done), by repeat (first | exact Drawn0.refl _ | apply Drawn0.step)⟩
  ·rw [if_neg c6] at H
   have c6b0 : (a0 == 1) = false := beq_eq_false_iff_ne.mpr c6
   have c6b1 : (a0 != 1) = true := bne_iff_ne.mpr c6
   by_cases c7 : a0 = 2
   ·rw [if_pos c7] at H
    have c7b0 : (a0 == 2) = true := beq_iff_eq.mpr c7
    have c7b1 : (a0 != 2) = false := bne_eq_false_iff_eq.mpr c7
    clear c7
    simp only [Option.some.injEq, Prod.mk.injEq] at H
    obtain ⟨rfl, rfl⟩ := H
    go_enter Try.func34, Try.ntmps34
    go_wp2
    go_ret2
    exact ⟨by first | rfl | (simp; done) | (simp [*]; done), by repeat (first | exact Drawn0.refl _ | apply Drawn0.step)⟩
   ·rw [if_neg c7] at H
    have c7b0 : (a0 == 2) = false := beq_eq_false_iff_ne.mpr c7
    have c7b1 : (a0 != 2) = true := bne_iff_ne.mpr c7
    by_cases c8 : a0 = 3
    ·rw [if_pos c8] at H
     have c8b0 : (a0 == 3) = true := beq_iff_eq.mpr c8
     have c8b1 : (a0 != 3) = false := bne_eq_false_iff_eq.mpr c8
     clear c8
     by_cases c9 : a2 = 0
     ·rw [if_pos c9] at H
      have c9b0 : (a2 == 0) = true := beq_iff_eq.mpr c9
      have c9b1 : (a2 != 0) = false := bne_eq_false_iff_eq.mpr c9
      clear c9
      simp only [Option.some.injEq, Prod.mk.injEq] at H
      obtain ⟨rfl, rfl⟩ := H
      go_enter Try.func34, Try.ntmps34
      go_wp2
      go_ret2
      exact ⟨by first | rfl | (simp; done) | (simp [*]; done), by repeat (first | exact Drawn0.refl _ | apply Drawn0.step)⟩
     ·rw [if_neg c9] at H
      have c9b0 : (a2 == 0) = false := beq_eq_false_iff_ne.mpr c9
      have c9b1 : (a2 != 0) = true := bne_iff_ne.mpr c9
      simp only [Option.some.injEq, Prod.mk.injEq] at H
      obtain ⟨rfl, rfl⟩ := H
      go_enter Try.func34, Try.ntmps34
      go_wp2
      go_ret2
      exact ⟨by first | rfl | (simp; done) | (simp [*]; done), by repeat (first | exact Drawn0.refl _ | apply Drawn0.step)⟩
    ·rw [if_neg c8] at H
     have c8b0 : (a0 == 3) = false := beq_eq_false_iff_ne.mpr c8
     have c8b1 : (a0 != 3) = true := bne_iff_ne.mpr c8
     by_cases c10 : a0 = 9
     ·rw [if_pos c10] at H
      have c10b0 : (a0 == 9) = true := beq_iff_eq.mpr c10
      have c10b1 : (a0 != 9) = false := bne_eq_false_iff_eq.mpr c10
      clear c10
      by_cases c11 : a2 = 0
      ·rw [if_pos c11] at H
       have c11b0 : (a2 == 0) = true := beq_iff_eq.mpr c11
       have c11b1 : (a2 != 0) = false := bne_eq_false_iff_eq.mpr c11
       clear c11
       simp only [Option.some.injEq, Prod.mk.injEq] at H
       obtain ⟨rfl, rfl⟩ := H
       go_enter Try.func34, Try.ntmps34
       go_wp2
       go_ret2
       exact ⟨by first | rfl | (simp; done) | (simp [*]; done), by repeat (first | exact Drawn0.refl _ | apply Drawn0.step)⟩
      ·rw [if_neg c11] at H
       have c11b0 : (a2 == 0) = false := beq_eq_false_iff_ne.mpr c11
       have c11b1 : (a2 != 0) = true := bne_iff_ne.mpr c11
       simp only [Option.some.injEq, Prod.mk.injEq] at H
       obtain ⟨rfl, rfl⟩ := H
       go_enter Try.func34, Try.ntmps34
       go_wp2
       go_ret2
       exact ⟨by first | rfl | (simp; done) | (simp [*]; done), by repeat (first | exact Drawn0.refl _ | apply Drawn0.step)⟩
     ·rw [if_neg c10] at H
      have c10b0 : (a0 == 9) = false := beq_eq_false_iff_ne.mpr c10
      have c10b1 : (a0 != 9) = true := bne_iff_ne.mpr c10
      by_cases c12 : a0 = 4
      ·rw [if_pos c12] at H
       have c12b0 : (a0 == 4) = true := beq_iff_eq.mpr c12
       have c12b1 : (a0 != 4) = false := bne_eq_false_iff_eq.mpr c12
       clear c12
       simp only [Option.some.injEq, Prod.mk.injEq] at H
       obtain ⟨rfl, rfl⟩ := H
       go_enter Try.func34, Try.ntmps34
       go_wp2
       go_ret2
       exact ⟨by first | rfl | (simp; done) | (simp [*]; done), by repeat (first | exact Drawn0.refl _ | apply Drawn0.step)⟩
      ·rw [if_neg c12] at H
       have c12b0 : (a0 == 4) = false := beq_eq_false_iff_ne.mpr c12
       have c12b1 : (a0 != 4) = true := bne_iff_ne.mpr c12
       by_cases c13 : a0 = 5
       ·rw [if_pos c13] at H
        have c13b0 : (a0 == 5) = true := beq_iff_eq.mpr c13
        have c13b1 : (a0 != 5) = false := bne_eq_false_iff_eq.mpr c13
        clear c13
        simp only [Option.some.injEq, Prod.mk.injEq] at H
        obtain ⟨rfl, rfl⟩ := H
        go_enter Try.func34, Try.ntmps34
        go_wp2
        go_ret2
        exact ⟨by first | rfl | (simp; done) | (simp [*]; done), by repeat (first | exact Drawn0.refl _ | apply Drawn0.step)⟩
       ·rw [if_neg c13] at H
        have c13b0 : (a0 == 5) = false := beq_eq_false_iff_ne.mpr c13
        have c13b1 : (a0 != 5) = true := bne_iff_ne.mpr c13
        by_cases c14 : a0 = 10
        ·rw [if_pos c14] at H
         have c14b0 : (a0 == 10) = true := beq_iff_eq.mpr c14
         have c14b1 : (a0 != 10) = false := bne_eq_false_iff_eq.mpr c14
         clear c14
         simp only [Option.some.injEq, Prod.mk.injEq] at H
         obtain ⟨rfl, rfl⟩ := H
         go_enter Try.func34, Try.ntmps34
         go_wp2
         go_ret2
         exact ⟨by first | rfl | (simp; done) | (simp [*]; done), by repeat (first | exact Drawn0.refl _ | apply Drawn0.step)⟩
        ·rw [if_neg c14] at H
         have c14b0 : (a0 == 10) = false := beq_eq_false_iff_ne.mpr c14
         have c14b1 : (a0 != 10) = true := bne_iff_ne.mpr c14
         by_cases c15 : a0 = 6
         ·rw [if_pos c15] at H
          have c15b0 : (a0 == 6) = true := beq_iff_eq.mpr c15
          have c15b1 : (a0 != 6) = false := bne_eq_false_iff_eq.mpr c15
          clear c15
          by_cases c16 : a3 = 0
          ·rw [if_pos c16] at H
           exact absurd H (by simp)
          ·rw [if_neg c16] at H
           have c16b0 : (a3 == 0) = false := beq_eq_false_iff_ne.mpr c16
           have c16b1 : (a3 != 0) = true := bne_iff_ne.mpr c16
           obtain ⟨ji17, hji17⟩ : ∃ j_ : Int, (Int.tmod a2 a3) = j_ := ⟨_, rfl⟩
           replace H : (if 0 ≤ (ji17) then (some (shl .u64 a1 (ji17), true)) else (none)) = some (r1, r2) := by first | (rw [hji17] at H; exact H) | (simp only [hji17] at H ⊢; exact H)
           by_cases c18 : 0 ≤ (ji17)
           ·rw [if_pos c18] at H
            have c18b0 := eq_true c18
            have c18b1 : decide (0 ≤ (ji17)) = true := decide_eq_true c18
            clear c18
            obtain ⟨ji19, hji19⟩ : ∃ j_ : Int, (shl .u64 a1 (ji17)) = j_ := ⟨_, rfl⟩
            replace H : (some (ji19, true)) = some (r1, r2) := by first | (rw [hji19] at H; exact H) | (simp only [hji19] at H ⊢; exact H)
            have hji19_ : (IntKind.u64.wrap (a1 * 2 ^ min (ji17).toNat 64)) = ji19 := hji19
            have hji19z : (ji17) ≤ 64 → (IntKind.u64.wrap (a1 * 2 ^ (ji17).toNat)) = ji19 := shl_small hji19
            simp only [Option.some.injEq, Prod.mk.injEq] at H
            obtain ⟨rfl, rfl⟩ := H
            go_enter Try.func34, Try.ntmps34
            go_wp2
            go_ret2
            exact ⟨by first | rfl | (simp; done) | (simp only [← hji17, ← hji19] <;> (first | rfl | simp)) | (simp [*]; done), by repeat (first | exact Drawn0.refl _ | apply Drawn0.step)⟩
           ·rw [if_neg c18] at H
            exact absurd H (by simp)
         ·rw [if_neg c15] at H
          have c15b0 : (a0 == 6) = false := beq_eq_false_iff_ne.mpr c15
          have c15b1 : (a0 != 6) = true := bne_iff_ne.mpr c15
          by_cases c20 : a0 = 7
          ·rw [if_pos c20] at H
           have c20b0 : (a0 == 7) = true := beq_iff_eq.mpr c20
           have c20b1 : (a0 != 7) = false := bne_eq_false_iff_eq.mpr c20
           clear c20
           by_cases c21 : a3 = 0
           ·rw [if_pos c21] at H
            exact absurd H (by simp)
           ·rw [if_neg c21] at H
            have c21b0 : (a3 == 0) = false := beq_eq_false_iff_ne.mpr c21
            have c21b1 : (a3 != 0) = true := bne_iff_ne.mpr c21
            obtain ⟨ji22, hji22⟩ : ∃ j_ : Int, (Int.tmod a2 a3) = j_ := ⟨_, rfl⟩
            replace H : (if 0 ≤ (ji22) then (some (shr .u64 a1 (ji22), true)) else (none)) = some (r1, r2) := by first | (rw [hji22] at H; exact H) | (simp only [hji22] at H ⊢; exact H)
            by_cases c23 : 0 ≤ (ji22)
            ·rw [if_pos c23] at H
             have c23b0 := eq_true c23
             have c23b1 : decide (0 ≤ (ji22)) = true := decide_eq_true c23
             clear c23
             obtain ⟨ji24, hji24⟩ : ∃ j_ : Int, (shr .u64 a1 (ji22)) = j_ := ⟨_, rfl⟩
             replace H : (some (ji24, true)) = some (r1, r2) := by first | (rw [hji24] at H; exact H) | (simp only [hji24] at H ⊢; exact H)
             have hji24_ : (a1 / 2 ^ min (ji22).toNat 64) = ji24 := hji24
             have hji24z : (ji22) ≤ 64 → (a1 / 2 ^ (ji22).toNat) = ji24 := shr_small hji24
             simp only [Option.some.injEq, Prod.mk.injEq] at H
             obtain ⟨rfl, rfl⟩ := H
             go_enter Try.func34, Try.ntmps34
             go_wp2
             go_ret2
             exact ⟨by first | rfl | (simp; done) | (simp only [← hji22, ← hji24] <;> (first | rfl | simp)) | (simp [*]; done), by repeat (first | exact Drawn0.refl _ | apply Drawn0.step)⟩
            ·rw [if_neg c23] at H
             exact absurd H (by simp)
          ·rw [if_neg c20] at H
           have c20b0 : (a0 == 7) = false := beq_eq_false_iff_ne.mpr c20
           have c20b1 : (a0 != 7) = true := bne_iff_ne.mpr c20
           by_cases c25 : a0 = 8
           ·rw [if_pos c25] at H
            have c25b0 : (a0 == 8) = true := beq_iff_eq.mpr c25
            have c25b1 : (a0 != 8) = false := bne_eq_false_iff_eq.mpr c25
            clear c25
            simp only [Option.some.injEq, Prod.mk.injEq] at H
            obtain ⟨rfl, rfl⟩ := H
            go_enter Try.func34, Try.ntmps34
            go_wp2
            go_ret2
            exact ⟨by first | rfl | (simp; done) | (simp [*]; done), by repeat (first | exact Drawn0.refl _ | apply Drawn0.step)⟩
           ·rw [if_neg c25] at H
            have c25b0 : (a0 == 8) = false := beq_eq_false_iff_ne.mpr c25
            have c25b1 : (a0 != 8) = true := bne_iff_ne.mpr c25
            by_cases c26 : a0 = 11
            ·rw [if_pos c26] at H
             have c26b0 : (a0 == 11) = true := beq_iff_eq.mpr c26
             have c26b1 : (a0 != 11) = false := bne_eq_false_iff_eq.mpr c26
             clear c26
             simp only [Option.some.injEq, Prod.mk.injEq] at H
             obtain ⟨rfl, rfl⟩ := H
             go_enter Try.func34, Try.ntmps34
             go_wp2
             go_ret2
             exact ⟨by first | rfl | (simp; done) | (simp [*]; done), by repeat (first | exact Drawn0.refl _ | apply Drawn0.step)⟩
            ·rw [if_neg c26] at H
             have c26b0 : (a0 == 11) = false := beq_eq_false_iff_ne.mpr c26
             have c26b1 : (a0 != 11) = true := bne_iff_ne.mpr c26
             simp only [Option.some.injEq, Prod.mk.injEq] at H
             obtain ⟨rfl, rfl⟩ := H
             go_enter Try.func34, Try.ntmps34
             go_wp2
             go_ret2
             exact ⟨by first | rfl | (simp; done) | (simp [*]; done), by repeat (first | exact Drawn0.refl _ | apply Drawn0.step)⟩

end Go.Proofs.Ytnpbhippkcikoaa.PA
