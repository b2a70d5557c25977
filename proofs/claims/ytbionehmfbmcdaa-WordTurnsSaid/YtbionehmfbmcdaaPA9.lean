-- PRINTED by print.py (a twelfth state) out of the translation. Not trusted: Lean checks it.
import Derived.Test.YtbionehmfbmcdaaPA0
namespace Go.Proofs.Ytbionehmfbmcdaa.PA
open Go.RowKit Go.Proofs.YtbionehmfbmcdaaW.PrintWords Go.Proofs.YtbionehmfbmcdaaW.PrintLast Go.Proofs.YtbionehmfbmcdaaW.PrintMore
attribute [local go_sem] max2_int min2_int max_two min_two max_three min_three max_four min_four   -- for this text's walks alone
set_option linter.unusedVariables false
set_option linter.unusedSimpArgs false

/-! ### lockgateref01_Swap: function 20 -/
mutual
def lockgateref01_Swap.j0 : Nat → Int → Bool → Int → Bool → Option (Int × Bool)
  | 0, _, _, _, _ => none
  | k + 1, x0, x1, x2, x21 => if x21 = true then (some (0, false)) else (lockgateref01_Swap.l0 k x0 x1 x2 0 0)
def lockgateref01_Swap.l0 : Nat → Int → Bool → Int → Int → Int → Option (Int × Bool)
  | 0, _, _, _, _, _ => none
  | k + 1, x0, x1, x2, x8, x9 => if x9 < (wrap64 (Int.tdiv x0 8)) then (if 0 ≤ (IntKind.u64.wrap (wrap64 (8 * x9))) then (if x1 = true then (if 0 ≤ (IntKind.u64.wrap (wrap64 (8 * (wrap64 ((wrap64 ((wrap64 (Int.tdiv x0 8)) - 1)) - x9))))) then (lockgateref01_Swap.l0 k x0 x1 x2 (Go.bits .or .u64 x8 (shl .u64 (Int.tmod (shr .u64 x2 (IntKind.u64.wrap (wrap64 (8 * x9)))) 256) (IntKind.u64.wrap (wrap64 (8 * (wrap64 ((wrap64 ((wrap64 (Int.tdiv x0 8)) - 1)) - x9))))))) (wrap64 (x9 + 1))) else (none)) else (lockgateref01_Swap.l0 k x0 x1 x2 (Go.bits .or .u64 x8 (shl .u64 (Int.tmod (shr .u64 x2 (IntKind.u64.wrap (wrap64 (8 * x9)))) 256) (IntKind.u64.wrap (wrap64 (8 * x9))))) (wrap64 (x9 + 1)))) else (none)) else (some (x8, true))
end
def lockgateref01_Swap.f (k : Nat) (a0 : Int) (a1 : Bool) (a2 : Int) : Option (Int × Bool) := if a0 = 16 then (lockgateref01_Swap.j0 k a0 a1 a2 false) else (if a0 = 32 then (lockgateref01_Swap.j0 k a0 a1 a2 false) else (lockgateref01_Swap.j0 k a0 a1 a2 (a0 != 64)))
theorem lockgateref01_Swap.mono_l : ∀ k, (∀ y0 y1 y2 y3, LeO (lockgateref01_Swap.j0 k y0 y1 y2 y3) (lockgateref01_Swap.j0 (k + 1) y0 y1 y2 y3)) ∧ (∀ y0 y1 y2 y3 y4, LeO (lockgateref01_Swap.l0 k y0 y1 y2 y3 y4) (lockgateref01_Swap.l0 (k + 1) y0 y1 y2 y3 y4))
  | 0 => ⟨fun _ _ _ _ r h => by simp [lockgateref01_Swap.j0] at h, fun _ _ _ _ _ r h => by simp [lockgateref01_Swap.l0] at h⟩
  | k + 1 => by
    obtain ⟨ih0, ih1⟩ := lockgateref01_Swap.mono_l k
    refine ⟨?_, ?_⟩
    · intro y0 y1 y2 y3
      unfold lockgateref01_Swap.j0
      repeat' first
      | (with_reducible exact ih0 _ _ _ _)
      | (with_reducible exact ih1 _ _ _ _ _)
      | (with_reducible exact LeO.refl _)
      | (with_reducible exact LeO.none _)
      | (with_reducible refine LeO.ite ?_ ?_)
      | (with_reducible refine LeO.bind ?_ (fun _ => ?_))
      | exact ih0 _ _ _ _
      | exact ih1 _ _ _ _ _
      | exact LeO.none _
      | refine LeO.ite ?_ ?_
      | refine LeO.bind ?_ (fun _ => ?_)
    · intro y0 y1 y2 y3 y4
      unfold lockgateref01_Swap.l0
      repeat' first
      | (with_reducible exact ih0 _ _ _ _)
      | (with_reducible exact ih1 _ _ _ _ _)
      | (with_reducible exact LeO.refl _)
      | (with_reducible exact LeO.none _)
      | (with_reducible refine LeO.ite ?_ ?_)
      | (with_reducible refine LeO.bind ?_ (fun _ => ?_))
      | exact ih0 _ _ _ _
      | exact ih1 _ _ _ _ _
      | exact LeO.none _
      | refine LeO.ite ?_ ?_
      | refine LeO.bind ?_ (fun _ => ?_)
theorem lockgateref01_Swap.mono : ∀ a0 a1 a2 k, LeO (lockgateref01_Swap.f k a0 a1 a2) (lockgateref01_Swap.f (k + 1) a0 a1 a2) := by
  intro a0 a1 a2 k
  obtain ⟨ih0, ih1⟩ := lockgateref01_Swap.mono_l k
  unfold lockgateref01_Swap.f
  repeat' first
      | (with_reducible exact ih0 _ _ _ _)
      | (with_reducible exact ih1 _ _ _ _ _)
      | (with_reducible exact LeO.refl _)
      | (with_reducible exact LeO.none _)
      | (with_reducible refine LeO.ite ?_ ?_)
      | (with_reducible refine LeO.bind ?_ (fun _ => ?_))
      | exact ih0 _ _ _ _
      | exact ih1 _ _ _ _ _
      | exact LeO.none _
      | refine LeO.ite ?_ ?_
      | refine LeO.bind ?_ (fun _ => ?_)
set_option maxHeartbeats 8000000 in
set_option maxRecDepth 100000 in
theorem lockgateref01_Swap.calls (k : Nat) (a0 : Int) (a1 : Bool) (a2 : Int) (r1 : Int) (r2 : Bool) (w : World) (h : lockgateref01_Swap.f k a0 a1 a2 = some (r1, r2)) :
    Calls Try.prog 20 #[.int .i64 a0, .bool a1, .int .u64 a2] w fun e w' => e = .returned (.tuple #[.int .u64 r1, .bool r2]) ∧ Drawn0 w w' := by
  have H : (if a0 = 16 then (lockgateref01_Swap.j0 k a0 a1 a2 false) else (if a0 = 32 then (lockgateref01_Swap.j0 k a0 a1 a2 false) else (lockgateref01_Swap.j0 k a0 a1 a2 (a0 != 64)))) = some (r1, r2) := h
  clear h
  have HC4 := Aside0.mk H
  clear H
  go_enter Try.func20, Try.ntmps20
  go_upto_region 1 with (fail)
  go_cut [21] (fun v21 wc => ∃ (kq : Nat) (x21_3 : Bool), v21 = .bool x21_3 ∧ Aside0 (lockgateref01_Swap.j0 kq a0 a1 a2 x21_3 = some (r1, r2)) ∧ Aside0 (kq ≤ k) ∧ Drawn0 w wc)
  case first =>
    have H := HC4.out
    clear HC4
    by_cases c5 : a0 = 16
    · rw [if_pos c5] at H
      have c5b0 : (a0 == 16) = true := beq_iff_eq.mpr c5
      have c5b1 : (a0 != 16) = false := bne_eq_false_iff_eq.mpr c5
      clear c5
      (first | rw [c5b0] | (simp only [i64_w, i32_w]; rw [c5b0]) | skip)
      have H' := Aside0.mk H
      clear H
      go_wp2
      go_meet
      case rel => exact ⟨_, (false), (by first | rfl | (simp; done) | (simp [*]; done)), H', ⟨by first | omega | exact Nat.le_refl _⟩, by repeat (first | exact Drawn0.refl _ | apply Drawn0.step)⟩
    · rw [if_neg c5] at H
      have c5b0 : (a0 == 16) = false := beq_eq_false_iff_ne.mpr c5
      have c5b1 : (a0 != 16) = true := bne_iff_ne.mpr c5
      (first | rw [c5b0] | (simp only [i64_w, i32_w]; rw [c5b0]) | skip)
      by_cases c6 : a0 = 32
      · rw [if_pos c6] at H
        have c6b0 : (a0 == 32) = true := beq_iff_eq.mpr c6
        have c6b1 : (a0 != 32) = false := bne_eq_false_iff_eq.mpr c6
        clear c6
        have H' := Aside0.mk H
        clear H
        go_wp2
        go_meet
        case rel => exact ⟨_, (false), (by first | rfl | (simp; done) | (simp [*]; done)), H', ⟨by first | omega | exact Nat.le_refl _⟩, by repeat (first | exact Drawn0.refl _ | apply Drawn0.step)⟩
      · rw [if_neg c6] at H
        have c6b0 : (a0 == 32) = false := beq_eq_false_iff_ne.mpr c6
        have c6b1 : (a0 != 32) = true := bne_iff_ne.mpr c6
        have H' := Aside0.mk H
        clear H
        go_wp2
        go_meet
        case rel => exact ⟨_, ((a0 != 64)), (by first | rfl | (simp; done) | (simp [*]; done)), H', ⟨by first | omega | exact Nat.le_refl _⟩, by repeat (first | exact Drawn0.refl _ | apply Drawn0.step)⟩
  case rest =>
    clear HC4
    try clear c2
    try clear p2
    try clear c5
    try clear c5b0
    try clear c5b1
    try clear c6
    try clear c6b0
    try clear c6b1
    obtain ⟨kq, x21_3, rfl, HA, HJ3, ⟨mc3, rfl⟩⟩ := hcut
    cases kq with
    | zero => exact absurd HA.out (by simp [lockgateref01_Swap.j0])
    | succ kj3 =>
      have H := HA.out
      clear HA
      simp only [lockgateref01_Swap.j0] at H
      by_cases c7 : x21_3 = true
      · subst c7
        have H1 : (some (0, false)) = some (r1, r2) := by rw [if_pos rfl] at H; exact H
        clear H
        have H := H1
        clear H1
        simp only [Option.some.injEq, Prod.mk.injEq] at H
        obtain ⟨rfl, rfl⟩ := H
        go_wp2
        go_ret2
        exact ⟨by first | rfl | (simp; done) | (simp [*]; done), by repeat (first | exact Drawn0.refl _ | apply Drawn0.step)⟩
      · replace c7 := Bool.eq_false_iff.mpr c7
        subst c7
        have H1 : (lockgateref01_Swap.l0 kj3 a0 a1 a2 0 0) = some (r1, r2) := by rw [if_neg (show ¬ (false = true) by decide)] at H; exact H
        clear H
        have H := H1
        clear H1
        have H' := Aside0.mk H
        clear H
        go_wp2
        go_loopg [8, 9] kj3 (fun kq v8 v9 w' => ∃ (x8_2 : Int) (x9_2 : Int), v8 = .int .u64 x8_2 ∧ v9 = .int .i64 x9_2 ∧ Aside0 (lockgateref01_Swap.l0 kq a0 a1 a2 x8_2 x9_2 = some (r1, r2)) ∧ Aside0 (kq ≤ kj3) ∧ Drawn0 w w')
        case atStart => exact ⟨(0), (0), (by first | rfl | (simp; done) | (simp [*]; done)), (by first | rfl | (simp; done) | (simp [*]; done)), H', ⟨Nat.le_refl _⟩, by repeat (first | exact Drawn0.refl _ | apply Drawn0.step)⟩
        case round =>
          clear H'
          try clear c2
          try clear p2
          try clear c3
          try clear c5
          try clear c5b0
          try clear c5b1
          try clear c6
          try clear c6b0
          try clear c6b1
          try clear c7
          try clear p2
          obtain ⟨x8_2, x9_2, rfl, rfl, HA, HK2, ⟨m2, rfl⟩⟩ := hrel
          cases gk with
          | zero => exact absurd HA.out (by simp [lockgateref01_Swap.l0])
          | succ k2 =>
            have H := HA.out
            clear HA
            simp only [lockgateref01_Swap.l0] at H
            by_cases c8 : x9_2 < (wrap64 (Int.tdiv a0 8))
            · rw [if_pos c8] at H
              have c8b0 : decide (x9_2 < (wrap64 (Int.tdiv a0 8))) = true := decide_eq_true c8
              clear c8
              obtain ⟨ji9, hji9⟩ : ∃ j_ : Int, (IntKind.u64.wrap (wrap64 (8 * x9_2))) = j_ := ⟨_, rfl⟩
              replace H : (if 0 ≤ (ji9) then (if a1 = true then (if 0 ≤ (IntKind.u64.wrap (wrap64 (8 * (wrap64 ((wrap64 ((wrap64 (Int.tdiv a0 8)) - 1)) - x9_2))))) then (lockgateref01_Swap.l0 k2 a0 a1 a2 (Go.bits .or .u64 x8_2 (shl .u64 (Int.tmod (shr .u64 a2 (ji9)) 256) (IntKind.u64.wrap (wrap64 (8 * (wrap64 ((wrap64 ((wrap64 (Int.tdiv a0 8)) - 1)) - x9_2))))))) (wrap64 (x9_2 + 1))) else (none)) else (lockgateref01_Swap.l0 k2 a0 a1 a2 (Go.bits .or .u64 x8_2 (shl .u64 (Int.tmod (shr .u64 a2 (ji9)) 256) (ji9))) (wrap64 (x9_2 + 1)))) else (none)) = some (r1, r2) := by first | (rw [hji9] at H; exact H) | (simp only [hji9] at H ⊢; exact H)
              by_cases c10 : 0 ≤ (ji9)
              · rw [if_pos c10] at H
                have c10b0 := eq_true c10
                have c10b1 : decide (0 ≤ (ji9)) = true := decide_eq_true c10
                clear c10
                obtain ⟨ji11, hji11⟩ : ∃ j_ : Int, (shr .u64 a2 (ji9)) = j_ := ⟨_, rfl⟩
                replace H : (if a1 = true then (if 0 ≤ (IntKind.u64.wrap (wrap64 (8 * (wrap64 ((wrap64 ((wrap64 (Int.tdiv a0 8)) - 1)) - x9_2))))) then (lockgateref01_Swap.l0 k2 a0 a1 a2 (Go.bits .or .u64 x8_2 (shl .u64 (Int.tmod (ji11) 256) (IntKind.u64.wrap (wrap64 (8 * (wrap64 ((wrap64 ((wrap64 (Int.tdiv a0 8)) - 1)) - x9_2))))))) (wrap64 (x9_2 + 1))) else (none)) else (lockgateref01_Swap.l0 k2 a0 a1 a2 (Go.bits .or .u64 x8_2 (shl .u64 (Int.tmod (ji11) 256) (ji9))) (wrap64 (x9_2 + 1)))) = some (r1, r2) := by first | (rw [hji11] at H; exact H) | (simp only [hji11] at H ⊢; exact H)
                have hji11_ : (a2 / 2 ^ min (ji9).toNat 64) = ji11 := hji11
                have hji11z : (ji9) ≤ 64 → (a2 / 2 ^ (ji9).toNat) = ji11 := shr_small hji11
                by_cases c12 : a1 = true
                · subst c12
                  have H1 : (if 0 ≤ (IntKind.u64.wrap (wrap64 (8 * (wrap64 ((wrap64 ((wrap64 (Int.tdiv a0 8)) - 1)) - x9_2))))) then (lockgateref01_Swap.l0 k2 a0 true a2 (Go.bits .or .u64 x8_2 (shl .u64 (Int.tmod (ji11) 256) (IntKind.u64.wrap (wrap64 (8 * (wrap64 ((wrap64 ((wrap64 (Int.tdiv a0 8)) - 1)) - x9_2))))))) (wrap64 (x9_2 + 1))) else (none)) = some (r1, r2) := by rw [if_pos rfl] at H; exact H
                  clear H
                  have H := H1
                  clear H1
                  obtain ⟨ji13, hji13⟩ : ∃ j_ : Int, (IntKind.u64.wrap (wrap64 (8 * (wrap64 ((wrap64 ((wrap64 (Int.tdiv a0 8)) - 1)) - x9_2))))) = j_ := ⟨_, rfl⟩
                  replace H : (if 0 ≤ (ji13) then (lockgateref01_Swap.l0 k2 a0 true a2 (Go.bits .or .u64 x8_2 (shl .u64 (Int.tmod (ji11) 256) (ji13))) (wrap64 (x9_2 + 1))) else (none)) = some (r1, r2) := by first | (rw [hji13] at H; exact H) | (simp only [hji13] at H ⊢; exact H)
                  by_cases c14 : 0 ≤ (ji13)
                  · rw [if_pos c14] at H
                    have c14b0 := eq_true c14
                    have c14b1 : decide (0 ≤ (ji13)) = true := decide_eq_true c14
                    clear c14
                    obtain ⟨ji15, hji15⟩ : ∃ j_ : Int, (shl .u64 (Int.tmod (ji11) 256) (ji13)) = j_ := ⟨_, rfl⟩
                    replace H : (lockgateref01_Swap.l0 k2 a0 true a2 (Go.bits .or .u64 x8_2 (ji15)) (wrap64 (x9_2 + 1))) = some (r1, r2) := by first | (rw [hji15] at H; exact H) | (simp only [hji15] at H ⊢; exact H)
                    have hji15_ : (IntKind.u64.wrap ((Int.tmod (ji11) 256) * 2 ^ min (ji13).toNat 64)) = ji15 := hji15
                    have hji15z : (ji13) ≤ 64 → (IntKind.u64.wrap ((Int.tmod (ji11) 256) * 2 ^ (ji13).toNat)) = ji15 := shl_small hji15
                    have H' := Aside0.mk H
                    clear H
                    go_wp2
                    go_roundg k2
                    case measure => have := HJ3.out; have := HK2.out; omega
                    case rel => exact ⟨(Go.bits .or .u64 x8_2 (ji15)), (wrap64 (x9_2 + 1)), (by first | rfl | (simp; done) | (simp only [← hji15] <;> (first | rfl | simp)) | (simp [*]; done)), (by first | rfl | (simp; done) | (simp [*]; done)), H', ⟨by have := HJ3.out; have := HK2.out; omega⟩, by repeat (first | exact Drawn0.refl _ | apply Drawn0.step)⟩
                  · rw [if_neg c14] at H
                    exact absurd H (by simp)
                · replace c12 := Bool.eq_false_iff.mpr c12
                  subst c12
                  have H1 : (lockgateref01_Swap.l0 k2 a0 false a2 (Go.bits .or .u64 x8_2 (shl .u64 (Int.tmod (ji11) 256) (ji9))) (wrap64 (x9_2 + 1))) = some (r1, r2) := by rw [if_neg (show ¬ (false = true) by decide)] at H; exact H
                  clear H
                  have H := H1
                  clear H1
                  have c16b0 := eq_true (of_decide_eq_true (by first | (with_reducible assumption) | assumption) : 0 ≤ (ji9))
                  obtain ⟨ji17, hji17⟩ : ∃ j_ : Int, (shl .u64 (Int.tmod (ji11) 256) (ji9)) = j_ := ⟨_, rfl⟩
                  replace H : (lockgateref01_Swap.l0 k2 a0 false a2 (Go.bits .or .u64 x8_2 (ji17)) (wrap64 (x9_2 + 1))) = some (r1, r2) := by first | (rw [hji17] at H; exact H) | (simp only [hji17] at H ⊢; exact H)
                  have hji17_ : (IntKind.u64.wrap ((Int.tmod (ji11) 256) * 2 ^ min (ji9).toNat 64)) = ji17 := hji17
                  have hji17z : (ji9) ≤ 64 → (IntKind.u64.wrap ((Int.tmod (ji11) 256) * 2 ^ (ji9).toNat)) = ji17 := shl_small hji17
                  have H' := Aside0.mk H
                  clear H
                  go_wp2
                  go_roundg k2
                  case measure => have := HJ3.out; have := HK2.out; omega
                  case rel => exact ⟨(Go.bits .or .u64 x8_2 (ji17)), (wrap64 (x9_2 + 1)), (by first | rfl | (simp; done) | (simp only [← hji17] <;> (first | rfl | simp)) | (simp [*]; done)), (by first | rfl | (simp; done) | (simp [*]; done)), H', ⟨by have := HJ3.out; have := HK2.out; omega⟩, by repeat (first | exact Drawn0.refl _ | apply Drawn0.step)⟩
              · rw [if_neg c10] at H
                exact absurd H (by simp)
            · rw [if_neg c8] at H
              have c8b0 : decide (x9_2 < (wrap64 (Int.tdiv a0 8))) = false := decide_eq_false c8
              clear c8
              simp only [Option.some.injEq, Prod.mk.injEq] at H
              obtain ⟨rfl, rfl⟩ := H
              go_wp2
              go_ret2
              exact ⟨by first | rfl | (simp; done) | (simp [*]; done), by repeat (first | exact Drawn0.refl _ | apply Drawn0.step)⟩

end Go.Proofs.Ytbionehmfbmcdaa.PA
