-- PRINTED by print.py (a twelfth state) out of the translation. Not trusted: Lean checks it.
import Derived.Test.YtnpbhippkcikoaaPA0
import Derived.Test.YtnpbhippkcikoaaSq
import Derived.Test.YtnpbhippkcikoaaPA11
namespace Go.Proofs.Ytnpbhippkcikoaa.PA
open Go.RowKit Go.Proofs.YtnpbhippkcikoaaW.PrintWords Go.Proofs.YtnpbhippkcikoaaW.PrintLast Go.Proofs.YtnpbhippkcikoaaW.PrintMore
attribute [local go_sem] max2_int min2_int max_two min_two max_three min_three max_four min_four   -- for this text's walks alone
set_option linter.unusedVariables false
set_option linter.unusedSimpArgs false

/-! ### lockgateref01_Swap: function 33 -/
mutual
def lockgateref01_Swap.j0 : Nat → Int → Bool → Int → Bool → Option (Int × Bool)
 | 0, _, _, _, _ => none
 | k + 1, x0, x1, x2, x21 => if x21 = true then (some (0, false)) else (lockgateref01_Swap.l0 k x0 x1 x2 0 0)
def lockgateref01_Swap.l0 : Nat → Int → Bool → Int → Int → Int → Option (Int × Bool)
 | 0, _, _, _, _, _ => none
 | k + 1, x0, x1, x2, x8, x9 => if x9 < (wrap64 (Int.tdiv x0 8)) then (if 0 ≤ (IntKind.u64.wrap (wrap64 (8 * x9))) then (if x1 = true then (if 0 ≤ (IntKind.u64.wrap (wrap64 (8 * (wrap64 ((wrap64 ((wrap64 (Int.tdiv x0 8)) - 1)) - x9))))) then (lockgateref01_Swap.l0 k x0 x1 x2 (Go.bits .or .u64 x8 (shl .u64 (Int.tmod (shr .u64 x2 (IntKind.u64.wrap (wrap64 (8 * x9)))) 256) (IntKind.u64.wrap (wrap64 (8 * (wrap64 ((wrap64 ((wrap64 (Int.tdiv x0 8)) - 1)) - x9))))))) (wrap64 (x9 + 1))) else (none)) else (lockgateref01_Swap.l0 k x0 x1 x2 (Go.bits .or .u64 x8 (shl .u64 (Int.tmod (shr .u64 x2 (IntKind.u64.wrap (wrap64 (8 * x9)))) 256) (IntKind.u64.wrap (wrap64 (8 * x9))))) (wrap64 (x9 + 1)))) else (none)) else (some (x8, true))
end
def lockgateref01_Swap.f (k : Nat) (a0 : Int) (a1 : Bool) (a2 : Int) : Option (Int × Bool) := if a0 = 16 then (lockgateref01_Swap.j0 k a0 a1 a2 false) else (if a0 = 32 then (lockgateref01_Swap.j0 k a0 a1 a2 false) else (lockgateref01_Swap.j0 k a0 a1 a2 (a0 != 64)))
theorem lockgateref01_Swap.mono_l : ∀ k, (∀ y0 y1 y2 y3, LeO (lockgateref01_Swap.j0 k y0 y1 y2 y3) (lockgateref01_Swap.j0 (k + 1) y0 y1 y2 y3)) ∧ (∀ y0 y1 y2 y3 y4, LeO (lockgateref01_Swap.l0 k y0 y1 y2 y3 y4) (lockgateref01_Swap.l0 (k + 1) y0 y1 y2 y3 y4))
 | 0 => ⟨fun _ _ _ _ r h => by simp [lockgateref01_Swap.j0] at h, fun _ _ _ _ _ r h => by simp [lockgateref01_Swap.l0] at h⟩
 | k + 1 => by
  obtain ⟨ih0, ih1⟩ := lockgateref01_Swap.mono_l k
  refine ⟨?_, ?_⟩
  ·intro y0 y1 y2 y3
   unfold lockgateref01_Swap.j0
   repeat' first
   | (with_reducible exact ih0 _ _ _ _)
   | (with_reducible exact ih1 _ _ _ _ _)
   | (with_reducible exact LeO.refl _)
   | (with_reducible exact LeO.none _)
   | (with_reducible refine LeO.ite ?_ ?_)
   | (with_reducible refine LeO.bind ?_ (fun _ => ?_))
   | exact ih0 _ _ _ _
   | exact ih1 _ _ _ _ _
   | exact LeO.none _
   | refine LeO.ite ?_ ?_
   | refine LeO.bind ?_ (fun _ => ?_)
  ·intro y0 y1 y2 y3 y4
   unfold lockgateref01_Swap.l0
   repeat' first
   | (with_reducible exact ih0 _ _ _ _)
   | (with_reducible exact ih1 _ _ _ _ _)
   | (with_reducible exact LeO.refl _)
   | (with_reducible exact LeO.none _)
   | (with_reducible refine LeO.ite ?_ ?_)
   | (with_reducible refine LeO.bind ?_ (fun _ => ?_))
   | exact ih0 _ _ _ _
   | exact ih1 _ _ _ _ _
   | exact LeO.none _
   | refine LeO.ite ?_ ?_
   | refine LeO.bind ?_ (fun _ => ?_)
theorem lockgateref01_Swap.mono : ∀ a0 a1 a2 k, LeO (lockgateref01_Swap.f k a0 a1 a2) (lockgateref01_Swap.f (k + 1) a0 a1 a2) := by
 intro a0 a1 a2 k
 obtain ⟨ih0, ih1⟩ := lockgateref01_Swap.mono_l k
 unfold lockgateref01_Swap.f
 repeat' first
  | (with_reducible exact ih0 _ _ _ _)
  | (with_reducible exact ih1 _ _ _ _ _)
  | (with_reducible exact LeO.refl _)
  | (with_reducible exact LeO.none _)
  | (with_reducible refine LeO.ite ?_ ?_)
  | (with_reducible refine LeO.bind ?_ (fun _ => ?_))
  | exact ih0 _ _ _ _
  | exact ih1 _ _ _ _ _
  | exact LeO.none _
  | refine LeO.ite ?_ ?_
  | refine LeO.bind ?_ (fun _ => ?_)
set_option maxHeartbeats 8000000 in
set_option maxRecDepth 100000 in
theorem lockgateref01_Swap.calls (k : Nat) (a0 : Int) (a1 : Bool) (a2 : Int) (r1 : Int) (r2 : Bool) (w : World) (h : lockgateref01_Swap.f k a0 a1 a2 = some (r1, r2)) :
 Calls Try.prog 33 #[.int .i64 a0, .bool a1, .int .u64 a2] w fun e w' => e = .returned (.tuple #[.int .u64 r1, .bool r2]) ∧ Drawn0 w w' := by
 have H : (if a0 = 16 then (lockgateref01_Swap.j0 k a0 a1 a2 false) else (if a0 = 32 then (lockgateref01_Swap.j0 k a0 a1 a2 false) else (lockgateref01_Swap.j0 k a0 a1 a2 (a0 != 64)))) = some (r1, r2) := h
 clear h
 have HC4 := Aside0.mk H
 clear H
 go_enter Try.func33, Try.ntmps33
 go_upto_region 1 with (fail)
 go_cut [21] (fun v21 wc => ∃ (kq : Nat) (x21_3 : Bool), v21 = .bool x21_3 ∧ Aside0 (lockgateref01_Swap.j0 kq a0 a1 a2 x21_3 = some (r1, r2)) ∧ Aside0 (kq ≤ k) ∧ Drawn0 w wc)
 case first =>
  have H := HC4.out
  clear HC4
  by_cases c5 : a0 = 16
  ·rw [if_pos c5] at H
   have c5b0 : (a0 == 16) = true := beq_iff_eq.mpr c5
   have c5b1 : (a0 != 16) = false := bne_eq_false_iff_eq.mpr c5
   clear c5
   (first | rw [c5b0] | (simp only [i64_w, i32_w]; rw [c5b0]) | skip)
   have H' := Aside0.mk H
   clear H
   go_wp2
   go_meet
   case rel => exact ⟨_, (false), (by first | rfl | (simp; done) | (simp [*]; done)), H', ⟨by first | omega | exact Nat.le_refl _⟩, by repeat (first | exact Drawn0.refl _ | apply Drawn0.step)⟩
  ·rw [if_neg c5] at H
   have c5b0 : (a0 == 16) = false := beq_eq_false_iff_ne.mpr c5
   have c5b1 : (a0 != 16) = true := bne_iff_ne.mpr c5
   (first | rw [c5b0] | (simp only [i64_w, i32_w]; rw [c5b0]) | skip)
   by_cases c6 : a0 = 32
   ·rw [if_pos c6] at H
    have c6b0 : (a0 == 32) = true := beq_iff_eq.mpr c6
    have c6b1 : (a0 != 32) = false := bne_eq_false_iff_eq.mpr c6
    clear c6
    have H' := Aside0.mk H
    clear H
    go_wp2
    go_meet
    case rel => exact ⟨_, (false), (by first | rfl | (simp; done) | (simp [*]; done)), H', ⟨by first | omega | exact Nat.le_refl _⟩, by repeat (first | exact Drawn0.refl _ | apply Drawn0.step)⟩
   ·rw [if_neg c6] at H
    have c6b0 : (a0 == 32) = false := beq_eq_false_iff_ne.mpr c6
    have c6b1 : (a0 != 32) = true := bne_iff_ne.mpr c6
    have H' := Aside0.mk H
    clear H
    go_wp2
    go_meet
    case rel => exact ⟨_, ((a0 != 64)), (by first | rfl | (simp; done) | (simp [*]; done)), H', ⟨by first | omega | exact Nat.le_refl _⟩, by repeat (first | exact Drawn0.refl _ | apply Drawn0.step)⟩
 case rest =>
  clear HC4
  try clear p2
  try clear c3
  try clear c5
  try clear c5b0
  try clear c5b1
  try clear c6
  try clear c6b0
  try clear c6b1
  obtain ⟨kq, x21_3, rfl, HA, HJ3, ⟨mc3, rfl⟩⟩ := hcut
  cases kq with
  | zero => exact absurd HA.out (by simp [lockgateref01_Swap.j0])
  | succ kj3 =>
   have H := HA.out
   clear HA
   simp only [lockgateref01_Swap.j0] at H
   by_cases c7 : x21_3 = true
   ·subst c7
    have H1 : (some (0, false)) = some (r1, r2) := by rw [if_pos rfl] at H; exact H
    clear H
    have H := H1
    clear H1
    simp only [Option.some.injEq, Prod.mk.injEq] at H
    obtain ⟨rfl, rfl⟩ := H
    go_wp2
    go_ret2
    exact ⟨by first | rfl | (simp; done) | (simp [*]; done), by repeat (first | exact Drawn0.refl _ | apply Drawn0.step)⟩
   ·replace c7 := Bool.eq_false_iff.mpr c7
    subst c7
    have H1 : (lockgateref01_Swap.l0 kj3 a0 a1 a2 0 0) = some (r1, r2) := by rw [if_neg (show ¬ (false = true) by decide)] at H; exact H
    clear H
    have H := H1
    clear H1
    have H' := Aside0.mk H
    clear H
    go_wp2
    go_loopg [8, 9] kj3 (fun kq v8 v9 w' => ∃ (x8_2 : Int) (x9_2 : Int), v8 = .int .u64 x8_2 ∧ v9 = .int .i64 x9_2 ∧ Aside0 (lockgateref01_Swap.l0 kq a0 a1 a2 x8_2 x9_2 = some (r1, r2)) ∧ Aside0 (kq ≤ kj3) ∧ Drawn0 w w')
    case atStart => exact ⟨(0), (0), (by first | rfl | (simp; done) | (simp [*]; done)), (by first | rfl | (simp; done) | (simp [*]; done)), H', ⟨Nat.le_refl _⟩, by repeat (first | exact Drawn0.refl _ | apply Drawn0.step)⟩
    case round =>
     clear H'
     try clear p2
     try clear c3
     try clear c5
     try clear c5b0
     try clear c5b1
     try clear c6
     try clear c6b0
     try clear c6b1
     try clear c7
     try clear p2
     obtain ⟨x8_2, x9_2, rfl, rfl, HA, HK2, ⟨m2, rfl⟩⟩ := hrel
     cases gk with
     | zero => exact absurd HA.out (by simp [lockgateref01_Swap.l0])
     | succ k2 =>
      have H := HA.out
      clear HA
      simp only [lockgateref01_Swap.l0] at H
      by_cases c8 : x9_2 < (wrap64 (Int.tdiv a0 8))
      ·rw [if_pos c8] at H
       have c8b0 : decide (x9_2 < (wrap64 (Int.tdiv a0 8))) = true := decide_eq_true c8
       clear c8
       obtain ⟨ji9, hji9⟩ : ∃ j_ : Int, (IntKind.u64.wrap (wrap64 (8 * x9_2))) = j_ := ⟨_, rfl⟩
       replace H : (if 0 ≤ (ji9) then (if a1 = true then (if 0 ≤ (IntKind.u64.wrap (wrap64 (8 * (wrap64 ((wrap64 ((wrap64 (Int.tdiv a0 8)) - 1)) - x9_2))))) then (lockgateref01_Swap.l0 k2 a0 a1 a2 (Go.bits .or .u64 x8_2 (shl .u64 (Int.tmod (shr .u64 a2 (ji9)) 256) (IntKind.u64.wrap (wrap64 (8 * (wrap64 ((wrap64 ((wrap64 (Int.tdiv a0 8)) - 1)) - x9_2))))))) (wrap64 (x9_2 + 1))) else (none)) else (lockgateref01_Swap.l0 k2 a0 a1 a2 (Go.bits .or .u64 x8_2 (shl .u64 (Int.tmod (shr .u64 a2 (ji9)) 256) (ji9))) (wrap64 (x9_2 + 1)))) else (none)) = some (r1, r2) := by first | (rw [hji9] at H; exact H) | (simp only [hji9] at H ⊢; exact H)
       by_cases c10 : 0 ≤ (ji9)
       ·rw [if_pos c10] at H
        have c10b0 := eq_true c10
        have c10b1 : decide (0 ≤ (ji9)) = true := decide_eq_true c10
        clear c10
        obtain ⟨ji11, hji11⟩ : ∃ j_ : Int, (shr .u64 a2 (ji9)) = j_ := ⟨_, rfl⟩
        replace H : (if a1 = true then (if 0 ≤ (IntKind.u64.wrap (wrap64 (8 * (wrap64 ((wrap64 ((wrap64 (Int.tdiv a0 8)) - 1)) - x9_2))))) then (lockgateref01_Swap.l0 k2 a0 a1 a2 (Go.bits .or .u64 x8_2 (shl .u64 (Int.tmod (ji11) 256) (IntKind.u64.wrap (wrap64 (8 * (wrap64 ((wrap64 ((wrap64 (Int.tdiv a0 8)) - 1)) - x9_2))))))) (wrap64 (x9_2 + 1))) else (none)) else (lockgateref01_Swap.l0 k2 a0 a1 a2 (Go.bits .or .u64 x8_2 (shl .u64 (Int.tmod (ji11) 256) (ji9))) (wrap64 (x9_2 + 1)))) = some (r1, r2) := by first | (rw [hji11] at H; exact H) | (simp only [hji11] at H ⊢; exact H)
        have hji11_ : (a2 / 2 ^ min (ji9).toNat 64) = ji11 := hji11
        have hji11z : (ji9) ≤ 64 → (a2 / 2 ^ (ji9).toNat) = ji11 := shr_small hji11
        by_cases c12 : a1 = true
        ·subst c12
         have H1 : (if 0 ≤ (IntKind.u64.wrap (wrap64 (8 * (wrap64 ((wrap64 ((wrap64 (Int.tdiv a0 8)) - 1)) - x9_2))))) then (lockgateref01_Swap.l0 k2 a0 true a2 (Go.bits .or .u64 x8_2 (shl .u64 (Int.tmod (ji11) 256) (IntKind.u64.wrap (wrap64 (8 * (wrap64 ((wrap64 ((wrap64 (Int.tdiv a0 8)) - 1)) - x9_2))))))) (wrap64 (x9_2 + 1))) else (none)) = some (r1, r2) := by rw [if_pos rfl] at H; exact H
         clear H
         have H := H1
         clear H1
         obtain ⟨ji13, hji13⟩ : ∃ j_ : Int, (IntKind.u64.wrap (wrap64 (8 * (wrap64 ((wrap64 ((wrap64 (Int.tdiv a0 8)) - 1)) - x9_2))))) = j_ := ⟨_, rfl⟩
         replace H : (if 0 ≤ (ji13) then (lockgateref01_Swap.l0 k2 a0 true a2 (Go.bits .or .u64 x8_2 (shl .u64 (Int.tmod (ji11) 256) (ji13))) (wrap64 (x9_2 + 1))) else (none)) = some (r1, r2) := by first | (rw [hji13] at H; exact H) | (simp only [hji13] at H ⊢; exact H)
         by_cases c14 : 0 ≤ (ji13)
         ·rw [if_pos c14] at H
          have c14b0 := eq_true c14
          have c14b1 : decide (0 ≤ (ji13)) = true := decide_eq_true c14
          clear c14
          obtain ⟨ji15, hji15⟩ : ∃ j_ : Int, (shl .u64 (Int.tmod (ji11) 256) (ji13)) = j_ := ⟨_, rfl⟩
          replace H : (lockgateref01_Swap.l0 k2 a0 true a2 (Go.bits .or .u64 x8_2 (ji15)) (wrap64 (x9_2 + 1))) = some (r1, r2) := by first | (rw [hji15] at H; exact H) | (simp only [hji15] at H ⊢; exact H)
          have hji15_ : (IntKind.u64.wrap ((Int.tmod (ji11) 256) * 2 ^ min (ji13).toNat 64)) = ji15 := hji15
          have hji15z : (ji13) ≤ 64 → (IntKind.u64.wrap ((Int.tmod (ji11) 256) * 2 ^ (ji13).toNat)) = ji15 := shl_small hji15
          have H' := Aside0.mk H
          clear H
          go_wp2
          go_roundg k2
          case measure => have := HJ3.out; have := HK2.out; omega
          case rel => exact ⟨(Go.bits .or .u64 x8_2 (ji15)), (wrap64 (x9_2 + 1)), (by first | rfl | (simp; done) | (simp only [← hji15] <;> (first | rfl | simp)) | (simp [*]; done)), (by first | rfl | (simp; done) | (simp [*]; done)), H', ⟨by have := HJ3.out; have := HK2.out; omega⟩, by repeat (first | exact Drawn0.refl _ | apply Drawn0.step)⟩
         ·rw [if_neg c14] at H
          exact absurd H (by simp)
        ·replace c12 := Bool.eq_false_iff.mpr c12
         subst c12
         have H1 : (lockgateref01_Swap.l0 k2 a0 false a2 (Go.bits .or .u64 x8_2 (shl .u64 (Int.tmod (ji11) 256) (ji9))) (wrap64 (x9_2 + 1))) = some (r1, r2) := by rw [if_neg (show ¬ (false = true) by decide)] at H; exact H
         clear H
         have H := H1
         clear H1
         have c16b0 := eq_true (of_decide_eq_true (by first | (with_reducible assumption) | assumption) : 0 ≤ (ji9))
         obtain ⟨ji17, hji17⟩ : ∃ j_ : Int, (shl .u64 (Int.tmod (ji11) 256) (ji9)) = j_ := ⟨_, rfl⟩
         replace H : (lockgateref01_Swap.l0 k2 a0 false a2 (Go.bits .or .u64 x8_2 (ji17)) (wrap64 (x9_2 + 1))) = some (r1, r2) := by first | (rw [hji17] at H; exact H) | (simp only [hji17] at H ⊢; exact H)
         have hji17_ : (IntKind.u64.wrap ((Int.tmod (ji11) 256) * 2 ^ min (ji9).toNat 64)) = ji17 := hji17
         have hji17z : (ji9) ≤ 64 → (IntKind.u64.wrap ((Int.tmod (ji11) 256) * 2 ^ (ji9).toNat)) = ji17 := shl_small hji17
         have H' := Aside0.mk H
         clear H
         go_wp2
         go_roundg k2
         case measure => have := HJ3.out; have := HK2.out; omega
         case rel => exact ⟨(Go.bits .or .u64 x8_2 (ji17)), (wrap64 (x9_2 + 1)), (by first | rfl | (simp; done) | (simp only [← hji17] <;> (first | rfl | simp)) | (simp [*]; done)), (by first | rfl | (simp; done) | (simp [*]; done)), H', ⟨by have := HJ3.out; have := HK2.out; omega⟩, by repeat (first | exact Drawn0.refl _ | apply Drawn0.step)⟩
       ·rw [if_neg c10] at H
        exact absurd H (by simp)
      ·rw [if_neg c8] at H
       have c8b0 : decide (x9_2 < (wrap64 (Int.tdiv a0 8))) = false := decide_eq_false c8
       clear c8
       simp only [Option.some.injEq, Prod.mk.injEq] at H
       obtain ⟨rfl, rfl⟩ := H
       go_wp2
       go_ret2
       exact ⟨by first | rfl | (simp; done) | (simp [*]; done), by repeat (first | exact Drawn0.refl _ | apply Drawn0.step)⟩

/-! ### lockgateref14_Swap: function 23 -/
def lockgateref14_Swap.f (k : Nat) (a0 : Int) (a1 : Bool) (a2_0 : Int) (a2_1 : Int) (a2_2 : Int) : Option (Int × Int × Int × Int) := if a2_0 = 0 then (some (0, 0, 0, 20)) else (if a2_0 = 1 then ((lockgateref01_Swap.f k a0 a1 a2_1).bind fun bt404 => (if bt404.2 = true then ((lockgateref14_Num.f bt404.1).bind fun bt406 => (some (bt406.1, bt406.2.1, bt406.2.2, 0))) else (some (0, 0, 0, 1)))) else (some (0, 0, 0, 21)))
theorem lockgateref14_Swap.mono : ∀ a0 a1 a2 a3 a4 k, LeO (lockgateref14_Swap.f k a0 a1 a2 a3 a4) (lockgateref14_Swap.f (k + 1) a0 a1 a2 a3 a4) := by
 intro a0 a1 a2 a3 a4 k
 unfold lockgateref14_Swap.f
 repeat' first
  | (with_reducible exact lockgateref01_Swap.mono _ _ _ _)
  | (with_reducible exact LeO.refl _)
  | (with_reducible exact LeO.none _)
  | (with_reducible refine LeO.ite ?_ ?_)
  | (with_reducible refine LeO.bind ?_ (fun _ => ?_))
  | exact lockgateref01_Swap.mono _ _ _ _
  | exact LeO.none _
  | refine LeO.ite ?_ ?_
  | refine LeO.bind ?_ (fun _ => ?_)
set_option maxHeartbeats 8000000 in
set_option maxRecDepth 100000 in
theorem lockgateref14_Swap.calls (k : Nat) (a0 : Int) (a1 : Bool) (a2_0 : Int) (a2_1 : Int) (a2_2 : Int) (r1 : Int) (r2 : Int) (r3 : Int) (r4 : Int) (w : World) (h : lockgateref14_Swap.f k a0 a1 a2_0 a2_1 a2_2 = some (r1, r2, r3, r4)) :
 Calls Try.prog 23 #[.int .i64 a0, .bool a1, .agg #[.int .i64 a2_0, .int .u64 a2_1, .int .i64 a2_2]] w fun e w' => e = .returned (.tuple #[.agg #[.int .i64 r1, .int .u64 r2, .int .i64 r3], .int .i64 r4]) ∧ Below w.heap.size w w' := by
 have hu24 := Try.underlying24
 have HB := Aside0.mk (Below.refl w.heap.size w)
 have H : (if a2_0 = 0 then (some (0, 0, 0, 20)) else (if a2_0 = 1 then ((lockgateref01_Swap.f k a0 a1 a2_1).bind fun bt404 => (if bt404.2 = true then ((lockgateref14_Num.f bt404.1).bind fun bt406 => (some (bt406.1, bt406.2.1, bt406.2.2, 0))) else (some (0, 0, 0, 1)))) else (some (0, 0, 0, 21)))) = some (r1, r2, r3, r4) := h
 clear h
 by_cases c4 : a2_0 = 0
 ·rw [if_pos c4] at H
  have c4b0 : (a2_0 == 0) = true := beq_iff_eq.mpr c4
  have c4b1 : (a2_0 != 0) = false := bne_eq_false_iff_eq.mpr c4
  clear c4
  simp only [Option.some.injEq, Prod.mk.injEq] at H
  obtain ⟨rfl, rfl, rfl, rfl⟩ := H
  go_enter Try.func23, Try.ntmps23
  go_wp2_with (first | ((with_reducible refine gate_dst (N := 5) rfl ?_); refine bx_ 5 #[.int .i64 a2_0, .int .u64 a2_1, .int .i64 a2_2] 24 ?_; intro gb402 hg w5 BK402 hb; have GW402 := bg_ hg; have GE402 := GW402; replace HB := bl_ hb; clear hb hg) | ((with_reducible refine gate_dst (N := 6) rfl ?_); refine bx_ 6 #[.int .i64 0, .int .u64 0, .int .i64 0] 24 ?_; intro gb403 hg w6 BK403 hb; have GW403 := bg_ hg; have GE403 := GW403; have NB402_403 := bm_ hg BK402; have NB403_402 := bn_ hg BK402; replace BK402 := bb_ hb BK402; replace HB := bl_ hb; clear hb hg; have hnb7 := NB402_403.out; have hnc7 := NB403_402.out; obtain ⟨zc8_0, zc8_1, zc8_2, zf8_0, zf8_1, zf8_2⟩ := k3_ BK402; obtain ⟨zc9_0, zc9_1, zc9_2, zf9_0, zf9_1, zf9_2⟩ := k3_ BK403))
  refine bodyPost_ret (results_ct rfl _ _ gb403 24 #[.int .i64 0, .int .u64 0, .int .i64 0] (0, 0) _ rfl (by (with_reducible repeat (first | apply bN_ | apply bD_ | apply bA_)); refine blk_put (cs := #[.int .i64 0, .int .u64 0, .int .i64 0]) ?_ 2 _ rfl; (with_reducible repeat (first | apply bN_ | apply bD_ | apply bA_)); refine blk_put (cs := #[.int .i64 0, .int .u64 0, .int .i64 0]) ?_ 1 _ rfl; (with_reducible repeat (first | apply bN_ | apply bD_ | apply bA_)); refine blk_put (cs := #[.int .i64 0, .int .u64 0, .int .i64 0]) ?_ 0 _ rfl; exact bk_) Try.underlying24 rfl (by kernel_rfl)) rfl ?_
  exact ⟨vv_, bz_⟩
 ·rw [if_neg c4] at H
  have c4b0 : (a2_0 == 0) = false := beq_eq_false_iff_ne.mpr c4
  have c4b1 : (a2_0 != 0) = true := bne_iff_ne.mpr c4
  by_cases c10 : a2_0 = 1
  ·rw [if_pos c10] at H
   have c10b0 : (a2_0 == 1) = true := beq_iff_eq.mpr c10
   have c10b1 : (a2_0 != 1) = false := bne_eq_false_iff_eq.mpr c10
   clear c10
   replace H := Option.bind_eq_some_iff.mp H
   obtain ⟨⟨t404, t405⟩, A110, H⟩ := H
   replace H : (if t405 = true then ((lockgateref14_Num.f t404).bind fun bt406 => (some (bt406.1, bt406.2.1, bt406.2.2, 0))) else (some (0, 0, 0, 1))) = some (r1, r2, r3, r4) := H
   have A11 := Aside0.mk A110
   clear A110
   by_cases c12 : t405 = true
   ·subst c12
    have H1 : ((lockgateref14_Num.f t404).bind fun bt406 => (some (bt406.1, bt406.2.1, bt406.2.2, 0))) = some (r1, r2, r3, r4) := by rw [if_pos rfl] at H; exact H
    clear H
    have H := H1
    clear H1
    replace H := Option.bind_eq_some_iff.mp H
    obtain ⟨⟨t406, t407, t408⟩, A130, H⟩ := H
    replace H : (some (t406, t407, t408, 0)) = some (r1, r2, r3, r4) := H
    have A13 := Aside0.mk A130
    clear A130
    simp only [Option.some.injEq, Prod.mk.injEq] at H
    obtain ⟨rfl, rfl, rfl, rfl⟩ := H
    go_enter Try.func23, Try.ntmps23
    go_wp2_with (first | ((with_reducible refine gate_dst (N := 5) rfl ?_); refine bx_ 5 #[.int .i64 a2_0, .int .u64 a2_1, .int .i64 a2_2] 24 ?_; intro gb402 hg w14 BK402 hb; have GW402 := bg_ hg; have GE402 := GW402; replace HB := bl_ hb; clear hb hg) | ((with_reducible refine gate_dst (N := 6) rfl ?_); refine bx_ 6 #[.int .i64 0, .int .u64 0, .int .i64 0] 24 ?_; intro gb403 hg w15 BK403 hb; have GW403 := bg_ hg; have GE403 := GW403; have NB402_403 := bm_ hg BK402; have NB403_402 := bn_ hg BK402; replace BK402 := bb_ hb BK402; replace HB := bl_ hb; clear hb hg; have hnb16 := NB402_403.out; have hnc16 := NB403_402.out; obtain ⟨zc17_0, zc17_1, zc17_2, zf17_0, zf17_1, zf17_2⟩ := k3_ BK402) | ((with_reducible refine gate_callee (f := 33) rfl ?_); refine gM_ 23 Try.func33 (lockgateref01_Swap.calls k a0 a1 a2_1 t404 true _ A11.out) ?_; rintro w' ⟨nd, rfl⟩; (try (rw [drewN_self w15]; generalize hq_ : World.drewN w15 _ = w15; have n0_ : Aside0 (w15.heap[gb402]? = some (.cells #[.int .i64 a2_0, .int .u64 a2_1, .int .i64 a2_2] 24 (0, 0))) := ⟨by rw [← hq_]; exact bk_⟩; have n1_ : Aside0 (w15.heap[gb403]? = some (.cells #[.int .i64 0, .int .u64 0, .int .i64 0] 24 (0, 0))) := ⟨by rw [← hq_]; exact bk_⟩; have n2_ : Aside0 (Below w.heap.size w w15) := ⟨by rw [← hq_]; exact bz_⟩; clear BK402 BK403 HB hq_; have BK402 := n0_; have BK403 := n1_; have HB := n2_; clear n0_ n1_ n2_)); obtain ⟨ycgb402_0, ycgb402_1, ycgb402_2, yfgb402_0, yfgb402_1, yfgb402_2⟩ := k3_ BK402; obtain ⟨ycgb403_0, ycgb403_1, ycgb403_2, yfgb403_0, yfgb403_1, yfgb403_2⟩ := k3_ BK403) | ((with_reducible refine gate_callee (f := 16) rfl ?_); refine gM_ 30 Try.func16 (lockgateref14_Num.calls t404 t406 t407 t408 _ A13.out) ?_; intro w18 hb; replace BK402 := bb_ hb BK402; replace BK403 := bb_ hb BK403; replace HB := bl_ hb; (try clear hb); (try clear hb2); (try clear hk); (try clear hi); obtain ⟨zc19_0, zc19_1, zc19_2, zf19_0, zf19_1, zf19_2⟩ := k3_ BK403))
    refine bodyPost_ret (results_ct rfl _ _ gb403 24 #[.int .i64 t406, .int .u64 t407, .int .i64 t408] (0, 0) _ rfl (by (with_reducible repeat (first | apply bN_ | apply bD_ | apply bA_)); refine blk_put (cs := #[.int .i64 t406, .int .u64 t407, .int .i64 0]) ?_ 2 _ rfl; (with_reducible repeat (first | apply bN_ | apply bD_ | apply bA_)); refine blk_put (cs := #[.int .i64 t406, .int .u64 0, .int .i64 0]) ?_ 1 _ rfl; (with_reducible repeat (first | apply bN_ | apply bD_ | apply bA_)); refine blk_put (cs := #[.int .i64 0, .int .u64 0, .int .i64 0]) ?_ 0 _ rfl; exact bk_) Try.underlying24 rfl (by kernel_rfl)) rfl ?_
    exact ⟨vv_, bz_⟩
   ·replace c12 := Bool.eq_false_iff.mpr c12
    subst c12
    have H1 : (some (0, 0, 0, 1)) = some (r1, r2, r3, r4) := by rw [if_neg (show ¬ (false = true) by decide)] at H; exact H
    clear H
    have H := H1
    clear H1
    simp only [Option.some.injEq, Prod.mk.injEq] at H
    obtain ⟨rfl, rfl, rfl, rfl⟩ := H
    go_enter Try.func23, Try.ntmps23
    go_wp2_with (first | ((with_reducible refine gate_dst (N := 5) rfl ?_); refine bx_ 5 #[.int .i64 a2_0, .int .u64 a2_1, .int .i64 a2_2] 24 ?_; intro gb402 hg w20 BK402 hb; have GW402 := bg_ hg; have GE402 := GW402; replace HB := bl_ hb; clear hb hg) | ((with_reducible refine gate_dst (N := 6) rfl ?_); refine bx_ 6 #[.int .i64 0, .int .u64 0, .int .i64 0] 24 ?_; intro gb403 hg w21 BK403 hb; have GW403 := bg_ hg; have GE403 := GW403; have NB402_403 := bm_ hg BK402; have NB403_402 := bn_ hg BK402; replace BK402 := bb_ hb BK402; replace HB := bl_ hb; clear hb hg; have hnb22 := NB402_403.out; have hnc22 := NB403_402.out; obtain ⟨zc23_0, zc23_1, zc23_2, zf23_0, zf23_1, zf23_2⟩ := k3_ BK402) | ((with_reducible refine gate_callee (f := 33) rfl ?_); refine gM_ 23 Try.func33 (lockgateref01_Swap.calls k a0 a1 a2_1 t404 false _ A11.out) ?_; rintro w' ⟨nd, rfl⟩; (try (rw [drewN_self w21]; generalize hq_ : World.drewN w21 _ = w21; have n0_ : Aside0 (w21.heap[gb402]? = some (.cells #[.int .i64 a2_0, .int .u64 a2_1, .int .i64 a2_2] 24 (0, 0))) := ⟨by rw [← hq_]; exact bk_⟩; have n1_ : Aside0 (w21.heap[gb403]? = some (.cells #[.int .i64 0, .int .u64 0, .int .i64 0] 24 (0, 0))) := ⟨by rw [← hq_]; exact bk_⟩; have n2_ : Aside0 (Below w.heap.size w w21) := ⟨by rw [← hq_]; exact bz_⟩; clear BK402 BK403 HB hq_; have BK402 := n0_; have BK403 := n1_; have HB := n2_; clear n0_ n1_ n2_)); obtain ⟨ycgb402_0, ycgb402_1, ycgb402_2, yfgb402_0, yfgb402_1, yfgb402_2⟩ := k3_ BK402; obtain ⟨zc24_0, zc24_1, zc24_2, zf24_0, zf24_1, zf24_2⟩ := k3_ BK403))
    refine bodyPost_ret (results_ct rfl _ _ gb403 24 #[.int .i64 0, .int .u64 0, .int .i64 0] (0, 0) _ rfl (by (with_reducible repeat (first | apply bN_ | apply bD_ | apply bA_)); refine blk_put (cs := #[.int .i64 0, .int .u64 0, .int .i64 0]) ?_ 2 _ rfl; (with_reducible repeat (first | apply bN_ | apply bD_ | apply bA_)); refine blk_put (cs := #[.int .i64 0, .int .u64 0, .int .i64 0]) ?_ 1 _ rfl; (with_reducible repeat (first | apply bN_ | apply bD_ | apply bA_)); refine blk_put (cs := #[.int .i64 0, .int .u64 0, .int .i64 0]) ?_ 0 _ rfl; exact bk_) Try.underlying24 rfl (by kernel_rfl)) rfl ?_
    exact ⟨vv_, bz_⟩
  ·rw [if_neg c10] at H
   have c10b0 : (a2_0 == 1) = false := beq_eq_false_iff_ne.mpr c10
   have c10b1 : (a2_0 != 1) = true := bne_iff_ne.mpr c10
   simp only [Option.some.injEq, Prod.mk.injEq] at H
   obtain ⟨rfl, rfl, rfl, rfl⟩ := H
   go_enter Try.func23, Try.ntmps23
   go_wp2_with (first | ((with_reducible refine gate_dst (N := 5) rfl ?_); refine bx_ 5 #[.int .i64 a2_0, .int .u64 a2_1, .int .i64 a2_2] 24 ?_; intro gb402 hg w25 BK402 hb; have GW402 := bg_ hg; have GE402 := GW402; replace HB := bl_ hb; clear hb hg) | ((with_reducible refine gate_dst (N := 6) rfl ?_); refine bx_ 6 #[.int .i64 0, .int .u64 0, .int .i64 0] 24 ?_; intro gb403 hg w26 BK403 hb; have GW403 := bg_ hg; have GE403 := GW403; have NB402_403 := bm_ hg BK402; have NB403_402 := bn_ hg BK402; replace BK402 := bb_ hb BK402; replace HB := bl_ hb; clear hb hg; have hnb27 := NB402_403.out; have hnc27 := NB403_402.out; obtain ⟨zc28_0, zc28_1, zc28_2, zf28_0, zf28_1, zf28_2⟩ := k3_ BK402; obtain ⟨zc29_0, zc29_1, zc29_2, zf29_0, zf29_1, zf29_2⟩ := k3_ BK403))
   refine bodyPost_ret (results_ct rfl _ _ gb403 24 #[.int .i64 0, .int .u64 0, .int .i64 0] (0, 0) _ rfl (by (with_reducible repeat (first | apply bN_ | apply bD_ | apply bA_)); refine blk_put (cs := #[.int .i64 0, .int .u64 0, .int .i64 0]) ?_ 2 _ rfl; (with_reducible repeat (first | apply bN_ | apply bD_ | apply bA_)); refine blk_put (cs := #[.int .i64 0, .int .u64 0, .int .i64 0]) ?_ 1 _ rfl; (with_reducible repeat (first | apply bN_ | apply bD_ | apply bA_)); refine blk_put (cs := #[.int .i64 0, .int .u64 0, .int .i64 0]) ?_ 0 _ rfl; exact bk_) Try.underlying24 rfl (by kernel_rfl)) rfl ?_
   exact ⟨vv_, bz_⟩

end Go.Proofs.Ytnpbhippkcikoaa.PA
