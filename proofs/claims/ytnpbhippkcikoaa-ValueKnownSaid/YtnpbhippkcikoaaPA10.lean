-- PRINTED by print.py (a twelfth state) out of the translation. Not trusted: Lean checks it.
import Derived.Test.YtnpbhippkcikoaaPA0
import Derived.Test.YtnpbhippkcikoaaSq
import Derived.Test.YtnpbhippkcikoaaPA3
namespace Go.Proofs.Ytnpbhippkcikoaa.PA
open Go.RowKit Go.Proofs.YtnpbhippkcikoaaW.PrintWords Go.Proofs.YtnpbhippkcikoaaW.PrintLast Go.Proofs.YtnpbhippkcikoaaW.PrintMore
attribute [local go_sem] max2_int min2_int max_two min_two max_three min_three max_four min_four   -- for this text's walks alone
set_option linter.unusedVariables false
set_option linter.unusedSimpArgs false

/-! ### word_Swap: function 26 -/
mutual
def word_Swap.j0 : Nat → Int → Bool → Int → Bool → Option (Int × Bool)
 | 0, _, _, _, _ => none
 | k + 1, x0, x1, x2, x18 => if x18 = true then (some (0, false)) else (if 0 ≤ (wrap64 (64 - x0)) then (if x1 = true then (word_Swap.l0 k (shr .u64 (shl .u64 x2 (wrap64 (64 - x0))) (wrap64 (64 - x0))) 0 (wrap64 (Int.tdiv x0 8)) 0) else (some (shr .u64 (shl .u64 x2 (wrap64 (64 - x0))) (wrap64 (64 - x0)), true))) else (none))
def word_Swap.l0 : Nat → Int → Int → Int → Int → Option (Int × Bool)
 | 0, _, _, _, _ => none
 | k + 1, x2, x8, x30, x31 => if x31 < x30 then (word_Swap.l0 k (x2 / 256) (Go.bits .or .u64 (IntKind.u64.wrap (x8 * 256)) (Go.bits .and .u64 x2 255)) x30 (wrap64 (x31 + 1))) else (some (x8, true))
end
def word_Swap.f (k : Nat) (a0 : Int) (a1 : Bool) (a2 : Int) : Option (Int × Bool) := if a0 = 16 then (word_Swap.j0 k a0 a1 a2 false) else (if a0 = 32 then (word_Swap.j0 k a0 a1 a2 false) else (word_Swap.j0 k a0 a1 a2 (a0 != 64)))
theorem word_Swap.mono_l : ∀ k, (∀ y0 y1 y2 y3, LeO (word_Swap.j0 k y0 y1 y2 y3) (word_Swap.j0 (k + 1) y0 y1 y2 y3)) ∧ (∀ y0 y1 y2 y3, LeO (word_Swap.l0 k y0 y1 y2 y3) (word_Swap.l0 (k + 1) y0 y1 y2 y3))
 | 0 => ⟨fun _ _ _ _ r h => by simp [word_Swap.j0] at h, fun _ _ _ _ r h => by simp [word_Swap.l0] at h⟩
 | k + 1 => by
  obtain ⟨ih0, ih1⟩ := word_Swap.mono_l k
  refine ⟨?_, ?_⟩
  ·intro y0 y1 y2 y3
   unfold word_Swap.j0
   repeat' first
   | (with_reducible exact ih0 _ _ _ _)
   | (with_reducible exact ih1 _ _ _ _)
   | (with_reducible exact LeO.refl _)
   | (with_reducible exact LeO.none _)
   | (with_reducible refine LeO.ite ?_ ?_)
   | (with_reducible refine LeO.bind ?_ (fun _ => ?_))
   | exact ih0 _ _ _ _
   | exact ih1 _ _ _ _
   | exact LeO.none _
   | refine LeO.ite ?_ ?_
   | refine LeO.bind ?_ (fun _ => ?_)
  ·intro y0 y1 y2 y3
   unfold word_Swap.l0
   repeat' first
   | (with_reducible exact ih0 _ _ _ _)
   | (with_reducible exact ih1 _ _ _ _)
   | (with_reducible exact LeO.refl _)
   | (with_reducible exact LeO.none _)
   | (with_reducible refine LeO.ite ?_ ?_)
   | (with_reducible refine LeO.bind ?_ (fun _ => ?_))
   | exact ih0 _ _ _ _
   | exact ih1 _ _ _ _
   | exact LeO.none _
   | refine LeO.ite ?_ ?_
   | refine LeO.bind ?_ (fun _ => ?_)
theorem word_Swap.mono : ∀ a0 a1 a2 k, LeO (word_Swap.f k a0 a1 a2) (word_Swap.f (k + 1) a0 a1 a2) := by
 intro a0 a1 a2 k
 obtain ⟨ih0, ih1⟩ := word_Swap.mono_l k
 unfold word_Swap.f
 repeat' first
  | (with_reducible exact ih0 _ _ _ _)
  | (with_reducible exact ih1 _ _ _ _)
  | (with_reducible exact LeO.refl _)
  | (with_reducible exact LeO.none _)
  | (with_reducible refine LeO.ite ?_ ?_)
  | (with_reducible refine LeO.bind ?_ (fun _ => ?_))
  | exact ih0 _ _ _ _
  | exact ih1 _ _ _ _
  | exact LeO.none _
  | refine LeO.ite ?_ ?_
  | refine LeO.bind ?_ (fun _ => ?_)
set_option maxHeartbeats 8000000 in
set_option maxRecDepth 100000 in
theorem word_Swap.calls (k : Nat) (a0 : Int) (a1 : Bool) (a2 : Int) (r1 : Int) (r2 : Bool) (w : World) (h : word_Swap.f k a0 a1 a2 = some (r1, r2)) :
 Calls Try.prog 26 #[.int .i64 a0, .bool a1, .int .u64 a2] w fun e w' => e = .returned (.tuple #[.int .u64 r1, .bool r2]) ∧ Drawn0 w w' := by
 have H : (if a0 = 16 then (word_Swap.j0 k a0 a1 a2 false) else (if a0 = 32 then (word_Swap.j0 k a0 a1 a2 false) else (word_Swap.j0 k a0 a1 a2 (a0 != 64)))) = some (r1, r2) := h
 clear h
 have HC4 := Aside0.mk H
 clear H
 go_enter Try.func26, Try.ntmps26
 go_upto_region 1 with (fail)
 go_cut [18] (fun v18 wc => ∃ (kq : Nat) (x18_3 : Bool), v18 = .bool x18_3 ∧ Aside0 (word_Swap.j0 kq a0 a1 a2 x18_3 = some (r1, r2)) ∧ Aside0 (kq ≤ k) ∧ Drawn0 w wc)
 case first =>
  have H := HC4.out
  clear HC4
  by_cases c5 : a0 = 16
  ·rw [if_pos c5] at H
   have c5b0 : (a0 == 16) = true := beq_iff_eq.mpr c5
   have c5b1 : (a0 != 16) = false := bne_eq_false_iff_eq.mpr c5
   clear c5
   (first | rw [c5b0] | (simp only [i64_w, i32_w]; rw [c5b0]) | skip)
   have H' := Aside0.mk H
   clear H
   go_wp2
   go_meet
   case rel => exact ⟨_, (false), (by first | rfl | (simp; done) | (simp [*]; done)), H', ⟨by first | omega | exact Nat.le_refl _⟩, by repeat (first | exact Drawn0.refl _ | apply Drawn0.step)⟩
  ·rw [if_neg c5] at H
   have c5b0 : (a0 == 16) = false := beq_eq_false_iff_ne.mpr c5
   have c5b1 : (a0 != 16) = true := bne_iff_ne.mpr c5
   (first | rw [c5b0] | (simp only [i64_w, i32_w]; rw [c5b0]) | skip)
   by_cases c6 : a0 = 32
   ·rw [if_pos c6] at H
    have c6b0 : (a0 == 32) = true := beq_iff_eq.mpr c6
    have c6b1 : (a0 != 32) = false := bne_eq_false_iff_eq.mpr c6
    clear c6
    have H' := Aside0.mk H
    clear H
    go_wp2
    go_meet
    case rel => exact ⟨_, (false), (by first | rfl | (simp; done) | (simp [*]; done)), H', ⟨by first | omega | exact Nat.le_refl _⟩, by repeat (first | exact Drawn0.refl _ | apply Drawn0.step)⟩
   ·rw [if_neg c6] at H
    have c6b0 : (a0 == 32) = false := beq_eq_false_iff_ne.mpr c6
    have c6b1 : (a0 != 32) = true := bne_iff_ne.mpr c6
    have H' := Aside0.mk H
    clear H
    go_wp2
    go_meet
    case rel => exact ⟨_, ((a0 != 64)), (by first | rfl | (simp; done) | (simp [*]; done)), H', ⟨by first | omega | exact Nat.le_refl _⟩, by repeat (first | exact Drawn0.refl _ | apply Drawn0.step)⟩
 case rest =>
  clear HC4
  try clear c2
  try clear p2
  try clear c5
  try clear c5b0
  try clear c5b1
  try clear c6
  try clear c6b0
  try clear c6b1
  obtain ⟨kq, x18_3, rfl, HA, HJ3, ⟨mc3, rfl⟩⟩ := hcut
  cases kq with
  | zero => exact absurd HA.out (by simp [word_Swap.j0])
  | succ kj3 =>
   have H := HA.out
   clear HA
   simp only [word_Swap.j0] at H
   by_cases c7 : x18_3 = true
   ·subst c7
    have H1 : (some (0, false)) = some (r1, r2) := by rw [if_pos rfl] at H; exact H
    clear H
    have H := H1
    clear H1
    simp only [Option.some.injEq, Prod.mk.injEq] at H
    obtain ⟨rfl, rfl⟩ := H
    go_wp2
    go_ret2
    exact ⟨by first | rfl | (simp; done) | (simp [*]; done), by repeat (first | exact Drawn0.refl _ | apply Drawn0.step)⟩
   ·replace c7 := Bool.eq_false_iff.mpr c7
    subst c7
    have H1 : (if 0 ≤ (wrap64 (64 - a0)) then (if a1 = true then (word_Swap.l0 kj3 (shr .u64 (shl .u64 a2 (wrap64 (64 - a0))) (wrap64 (64 - a0))) 0 (wrap64 (Int.tdiv a0 8)) 0) else (some (shr .u64 (shl .u64 a2 (wrap64 (64 - a0))) (wrap64 (64 - a0)), true))) else (none)) = some (r1, r2) := by rw [if_neg (show ¬ (false = true) by decide)] at H; exact H
    clear H
    have H := H1
    clear H1
    obtain ⟨ji8, hji8⟩ : ∃ j_ : Int, (wrap64 (64 - a0)) = j_ := ⟨_, rfl⟩
    replace H : (if 0 ≤ (ji8) then (if a1 = true then (word_Swap.l0 kj3 (shr .u64 (shl .u64 a2 (ji8)) (ji8)) 0 (wrap64 (Int.tdiv a0 8)) 0) else (some (shr .u64 (shl .u64 a2 (ji8)) (ji8), true))) else (none)) = some (r1, r2) := by first | (rw [hji8] at H; exact H) | (simp only [hji8] at H ⊢; exact H)
    have hji8w : (IntKind.i64.wrap (64 - a0)) = ji8 := (i64_w _).trans hji8
    by_cases c9 : 0 ≤ (ji8)
    ·rw [if_pos c9] at H
     have c9b0 := eq_true c9
     have c9b1 : decide (0 ≤ (ji8)) = true := decide_eq_true c9
     clear c9
     obtain ⟨ji10, hji10⟩ : ∃ j_ : Int, (shl .u64 a2 (ji8)) = j_ := ⟨_, rfl⟩
     replace H : (if a1 = true then (word_Swap.l0 kj3 (shr .u64 (ji10) (ji8)) 0 (wrap64 (Int.tdiv a0 8)) 0) else (some (shr .u64 (ji10) (ji8), true))) = some (r1, r2) := by first | (rw [hji10] at H; exact H) | (simp only [hji10] at H ⊢; exact H)
     have hji10_ : (IntKind.u64.wrap (a2 * 2 ^ min (ji8).toNat 64)) = ji10 := hji10
     have hji10z : (ji8) ≤ 64 → (IntKind.u64.wrap (a2 * 2 ^ (ji8).toNat)) = ji10 := shl_small hji10
     have c11b0 := eq_true (of_decide_eq_true (by first | (with_reducible assumption) | assumption) : 0 ≤ (ji8))
     obtain ⟨ji12, hji12⟩ : ∃ j_ : Int, (shr .u64 (ji10) (ji8)) = j_ := ⟨_, rfl⟩
     replace H : (if a1 = true then (word_Swap.l0 kj3 ji12 0 (wrap64 (Int.tdiv a0 8)) 0) else (some (ji12, true))) = some (r1, r2) := by first | (rw [hji12] at H; exact H) | (simp only [hji12] at H ⊢; exact H)
     have hji12_ : ((ji10) / 2 ^ min (ji8).toNat 64) = ji12 := hji12
     have hji12z : (ji8) ≤ 64 → ((ji10) / 2 ^ (ji8).toNat) = ji12 := shr_small hji12
     by_cases c13 : a1 = true
     ·subst c13
      have H1 : (word_Swap.l0 kj3 ji12 0 (wrap64 (Int.tdiv a0 8)) 0) = some (r1, r2) := by rw [if_pos rfl] at H; exact H
      clear H
      have H := H1
      clear H1
      have H' := Aside0.mk H
      clear H
      go_wp2
      go_loopg [2, 8, 31] kj3 (fun kq v2 v8 v31 w' => ∃ (x2_2 : Int) (x8_2 : Int) (x31_2 : Int), v2 = .int .u64 x2_2 ∧ v8 = .int .u64 x8_2 ∧ v31 = .int .i64 x31_2 ∧ Aside0 (word_Swap.l0 kq x2_2 x8_2 (wrap64 (Int.tdiv a0 8)) x31_2 = some (r1, r2)) ∧ Aside0 (kq ≤ kj3) ∧ Drawn0 w w')
      case atStart => exact ⟨(ji12), (0), (0), (by first | rfl | (simp; done) | (simp only [← hji12] <;> (first | rfl | simp)) | (simp [*]; done)), (by first | rfl | (simp; done) | (simp [*]; done)), (by first | rfl | (simp; done) | (simp [*]; done)), H', ⟨Nat.le_refl _⟩, by repeat (first | exact Drawn0.refl _ | apply Drawn0.step)⟩
      case round =>
       clear H'
       try clear c1
       try clear c2
       try clear p2
       try clear c3
       try clear c5
       try clear c5b0
       try clear c5b1
       try clear c6
       try clear c6b0
       try clear c6b1
       try clear p6
       try clear c7
       try clear c9
       try clear c9b0
       try clear c9b1
       try clear c11
       try clear c11b0
       try clear c13
       try clear p2
       obtain ⟨x2_2, x8_2, x31_2, rfl, rfl, rfl, HA, HK2, ⟨m2, rfl⟩⟩ := hrel
       cases gk with
       | zero => exact absurd HA.out (by simp [word_Swap.l0])
       | succ k2 =>
        have H := HA.out
        clear HA
        simp only [word_Swap.l0] at H
        by_cases c14 : x31_2 < (wrap64 (Int.tdiv a0 8))
        ·rw [if_pos c14] at H
         have c14b0 : decide (x31_2 < (wrap64 (Int.tdiv a0 8))) = true := decide_eq_true c14
         clear c14
         have H' := Aside0.mk H
         clear H
         go_wp2
         go_roundg k2
         case measure => have := HJ3.out; have := HK2.out; omega
         case rel => exact ⟨(x2_2 / 256), (Go.bits .or .u64 (IntKind.u64.wrap (x8_2 * 256)) (Go.bits .and .u64 x2_2 255)), (wrap64 (x31_2 + 1)), (by first | rfl | (simp; done) | (simp [*]; done)), (by first | rfl | (simp; done) | (simp [*]; done)), (by first | rfl | (simp; done) | (simp [*]; done)), H', ⟨by have := HJ3.out; have := HK2.out; omega⟩, by repeat (first | exact Drawn0.refl _ | apply Drawn0.step)⟩
        ·rw [if_neg c14] at H
         have c14b0 : decide (x31_2 < (wrap64 (Int.tdiv a0 8))) = false := decide_eq_false c14
         clear c14
         simp only [Option.some.injEq, Prod.mk.injEq] at H
         obtain ⟨rfl, rfl⟩ := H
         go_wp2
         go_ret2
         exact ⟨by first | rfl | (simp; done) | (simp only [← hji8, ← hji10, ← hji12] <;> (first | rfl | simp)) | (simp [*]; done), by repeat (first | exact Drawn0.refl _ | apply Drawn0.step)⟩
     ·replace c13 := Bool.eq_false_iff.mpr c13
      subst c13
      have H1 : (some (ji12, true)) = some (r1, r2) := by rw [if_neg (show ¬ (false = true) by decide)] at H; exact H
      clear H
      have H := H1
      clear H1
      simp only [Option.some.injEq, Prod.mk.injEq] at H
      obtain ⟨rfl, rfl⟩ := H
      go_wp2
      go_ret2
      exact ⟨by first | rfl | (simp; done) | (simp only [← hji8, ← hji10, ← hji12] <;> (first | rfl | simp)) | (simp [*]; done), by repeat (first | exact Drawn0.refl _ | apply Drawn0.step)⟩
    ·rw [if_neg c9] at H
     exact absurd H (by simp)

/-! ### value_Swap: function 22 -/
def value_Swap.f (k : Nat) (a0 : Int) (a1 : Bool) (a2_0 : Int) (a2_1 : Int) (a2_2 : Int) : Option (Int × Int × Int × Int) := if a2_0 = 0 then (some (0, 0, 0, 20)) else (if a2_0 = 1 then ((word_Swap.f k a0 a1 a2_1).bind fun bt397 => (if bt397.2 = true then ((value_Num.f bt397.1).bind fun bt399 => (some (bt399.1, bt399.2.1, bt399.2.2, 0))) else (some (0, 0, 0, 1)))) else (some (0, 0, 0, 21)))
theorem value_Swap.mono : ∀ a0 a1 a2 a3 a4 k, LeO (value_Swap.f k a0 a1 a2 a3 a4) (value_Swap.f (k + 1) a0 a1 a2 a3 a4) := by
 intro a0 a1 a2 a3 a4 k
 unfold value_Swap.f
 repeat' first
  | (with_reducible exact word_Swap.mono _ _ _ _)
  | (with_reducible exact LeO.refl _)
  | (with_reducible exact LeO.none _)
  | (with_reducible refine LeO.ite ?_ ?_)
  | (with_reducible refine LeO.bind ?_ (fun _ => ?_))
  | exact word_Swap.mono _ _ _ _
  | exact LeO.none _
  | refine LeO.ite ?_ ?_
  | refine LeO.bind ?_ (fun _ => ?_)
set_option maxHeartbeats 8000000 in
set_option maxRecDepth 100000 in
theorem value_Swap.calls (k : Nat) (a0 : Int) (a1 : Bool) (a2_0 : Int) (a2_1 : Int) (a2_2 : Int) (r1 : Int) (r2 : Int) (r3 : Int) (r4 : Int) (w : World) (h : value_Swap.f k a0 a1 a2_0 a2_1 a2_2 = some (r1, r2, r3, r4)) :
 Calls Try.prog 22 #[.int .i64 a0, .bool a1, .agg #[.int .i64 a2_0, .int .u64 a2_1, .int .i64 a2_2]] w fun e w' => e = .returned (.tuple #[.agg #[.int .i64 r1, .int .u64 r2, .int .i64 r3], .int .i64 r4]) ∧ Below w.heap.size w w' := by
 have hu24 := Try.underlying24
 have HB := Aside0.mk (Below.refl w.heap.size w)
 have H : (if a2_0 = 0 then (some (0, 0, 0, 20)) else (if a2_0 = 1 then ((word_Swap.f k a0 a1 a2_1).bind fun bt397 => (if bt397.2 = true then ((value_Num.f bt397.1).bind fun bt399 => (some (bt399.1, bt399.2.1, bt399.2.2, 0))) else (some (0, 0, 0, 1)))) else (some (0, 0, 0, 21)))) = some (r1, r2, r3, r4) := h
 clear h
 by_cases c4 : a2_0 = 0
 ·rw [if_pos c4] at H
  have c4b0 : (a2_0 == 0) = true := beq_iff_eq.mpr c4
  have c4b1 : (a2_0 != 0) = false := bne_eq_false_iff_eq.mpr c4
  clear c4
  simp only [Option.some.injEq, Prod.mk.injEq] at H
  obtain ⟨rfl, rfl, rfl, rfl⟩ := H
  go_enter Try.func22, Try.ntmps22
  go_wp2_with (first | ((with_reducible refine gate_dst (N := 5) rfl ?_); refine bx_ 5 #[.int .i64 a2_0, .int .u64 a2_1, .int .i64 a2_2] 24 ?_; intro gb395 hg w5 BK395 hb; have GW395 := bg_ hg; have GE395 := GW395; replace HB := bl_ hb; clear hb hg) | ((with_reducible refine gate_dst (N := 6) rfl ?_); refine bx_ 6 #[.int .i64 0, .int .u64 0, .int .i64 0] 24 ?_; intro gb396 hg w6 BK396 hb; have GW396 := bg_ hg; have GE396 := GW396; have NB395_396 := bm_ hg BK395; have NB396_395 := bn_ hg BK395; replace BK395 := bb_ hb BK395; replace HB := bl_ hb; clear hb hg; have hnb7 := NB395_396.out; have hnc7 := NB396_395.out; obtain ⟨zc8_0, zc8_1, zc8_2, zf8_0, zf8_1, zf8_2⟩ := k3_ BK395; obtain ⟨zc9_0, zc9_1, zc9_2, zf9_0, zf9_1, zf9_2⟩ := k3_ BK396))
  refine bodyPost_ret (results_ct rfl _ _ gb396 24 #[.int .i64 0, .int .u64 0, .int .i64 0] (0, 0) _ rfl (by (with_reducible repeat (first | apply bN_ | apply bD_ | apply bA_)); refine blk_put (cs := #[.int .i64 0, .int .u64 0, .int .i64 0]) ?_ 2 _ rfl; (with_reducible repeat (first | apply bN_ | apply bD_ | apply bA_)); refine blk_put (cs := #[.int .i64 0, .int .u64 0, .int .i64 0]) ?_ 1 _ rfl; (with_reducible repeat (first | apply bN_ | apply bD_ | apply bA_)); refine blk_put (cs := #[.int .i64 0, .int .u64 0, .int .i64 0]) ?_ 0 _ rfl; exact bk_) Try.underlying24 rfl (by kernel_rfl)) rfl ?_
  exact ⟨vv_, bz_⟩
 ·rw [if_neg c4] at H
  have c4b0 : (a2_0 == 0) = false := beq_eq_false_iff_ne.mpr c4
  have c4b1 : (a2_0 != 0) = true := bne_iff_ne.mpr c4
  by_cases c10 : a2_0 = 1
  ·rw [if_pos c10] at H
   have c10b0 : (a2_0 == 1) = true := beq_iff_eq.mpr c10
   have c10b1 : (a2_0 != 1) = false := bne_eq_false_iff_eq.mpr c10
   clear c10
   replace H := Option.bind_eq_some_iff.mp H
   obtain ⟨⟨t397, t398⟩, A110, H⟩ := H
   replace H : (if t398 = true then ((value_Num.f t397).bind fun bt399 => (some (bt399.1, bt399.2.1, bt399.2.2, 0))) else (some (0, 0, 0, 1))) = some (r1, r2, r3, r4) := H
   have A11 := Aside0.mk A110
   clear A110
   by_cases c12 : t398 = true
   ·subst c12
    have H1 : ((value_Num.f t397).bind fun bt399 => (some (bt399.1, bt399.2.1, bt399.2.2, 0))) = some (r1, r2, r3, r4) := by rw [if_pos rfl] at H; exact H
    clear H
    have H := H1
    clear H1
    replace H := Option.bind_eq_some_iff.mp H
    obtain ⟨⟨t399, t400, t401⟩, A130, H⟩ := H
    replace H : (some (t399, t400, t401, 0)) = some (r1, r2, r3, r4) := H
    have A13 := Aside0.mk A130
    clear A130
    simp only [Option.some.injEq, Prod.mk.injEq] at H
    obtain ⟨rfl, rfl, rfl, rfl⟩ := H
    go_enter Try.func22, Try.ntmps22
    go_wp2_with (first | ((with_reducible refine gate_dst (N := 5) rfl ?_); refine bx_ 5 #[.int .i64 a2_0, .int .u64 a2_1, .int .i64 a2_2] 24 ?_; intro gb395 hg w14 BK395 hb; have GW395 := bg_ hg; have GE395 := GW395; replace HB := bl_ hb; clear hb hg) | ((with_reducible refine gate_dst (N := 6) rfl ?_); refine bx_ 6 #[.int .i64 0, .int .u64 0, .int .i64 0] 24 ?_; intro gb396 hg w15 BK396 hb; have GW396 := bg_ hg; have GE396 := GW396; have NB395_396 := bm_ hg BK395; have NB396_395 := bn_ hg BK395; replace BK395 := bb_ hb BK395; replace HB := bl_ hb; clear hb hg; have hnb16 := NB395_396.out; have hnc16 := NB396_395.out; obtain ⟨zc17_0, zc17_1, zc17_2, zf17_0, zf17_1, zf17_2⟩ := k3_ BK395) | ((with_reducible refine gate_callee (f := 26) rfl ?_); refine gM_ 22 Try.func26 (word_Swap.calls k a0 a1 a2_1 t397 true _ A11.out) ?_; rintro w' ⟨nd, rfl⟩; (try (rw [drewN_self w15]; generalize hq_ : World.drewN w15 _ = w15; have n0_ : Aside0 (w15.heap[gb395]? = some (.cells #[.int .i64 a2_0, .int .u64 a2_1, .int .i64 a2_2] 24 (0, 0))) := ⟨by rw [← hq_]; exact bk_⟩; have n1_ : Aside0 (w15.heap[gb396]? = some (.cells #[.int .i64 0, .int .u64 0, .int .i64 0] 24 (0, 0))) := ⟨by rw [← hq_]; exact bk_⟩; have n2_ : Aside0 (Below w.heap.size w w15) := ⟨by rw [← hq_]; exact bz_⟩; clear BK395 BK396 HB hq_; have BK395 := n0_; have BK396 := n1_; have HB := n2_; clear n0_ n1_ n2_)); obtain ⟨ycgb395_0, ycgb395_1, ycgb395_2, yfgb395_0, yfgb395_1, yfgb395_2⟩ := k3_ BK395; obtain ⟨ycgb396_0, ycgb396_1, ycgb396_2, yfgb396_0, yfgb396_1, yfgb396_2⟩ := k3_ BK396) | ((with_reducible refine gate_callee (f := 15) rfl ?_); refine gM_ 27 Try.func15 (value_Num.calls t397 t399 t400 t401 _ A13.out) ?_; intro w18 hb; replace BK395 := bb_ hb BK395; replace BK396 := bb_ hb BK396; replace HB := bl_ hb; (try clear hb); (try clear hb2); (try clear hk); (try clear hi); obtain ⟨zc19_0, zc19_1, zc19_2, zf19_0, zf19_1, zf19_2⟩ := k3_ BK396))
    refine bodyPost_ret (results_ct rfl _ _ gb396 24 #[.int .i64 t399, .int .u64 t400, .int .i64 t401] (0, 0) _ rfl (by (with_reducible repeat (first | apply bN_ | apply bD_ | apply bA_)); refine blk_put (cs := #[.int .i64 t399, .int .u64 t400, .int .i64 0]) ?_ 2 _ rfl; (with_reducible repeat (first | apply bN_ | apply bD_ | apply bA_)); refine blk_put (cs := #[.int .i64 t399, .int .u64 0, .int .i64 0]) ?_ 1 _ rfl; (with_reducible repeat (first | apply bN_ | apply bD_ | apply bA_)); refine blk_put (cs := #[.int .i64 0, .int .u64 0, .int .i64 0]) ?_ 0 _ rfl; exact bk_) Try.underlying24 rfl (by kernel_rfl)) rfl ?_
    exact ⟨vv_, bz_⟩
   ·replace c12 := Bool.eq_false_iff.mpr c12
    subst c12
    have H1 : (some (0, 0, 0, 1)) = some (r1, r2, r3, r4) := by rw [if_neg (show ¬ (false = true) by decide)] at H; exact H
    clear H
    have H := H1
    clear H1
    simp only [Option.some.injEq, Prod.mk.injEq] at H
    obtain ⟨rfl, rfl, rfl, rfl⟩ := H
    go_enter Try.func22, Try.ntmps22
    go_wp2_with (first | ((with_reducible refine gate_dst (N := 5) rfl ?_); refine bx_ 5 #[.int .i64 a2_0, .int .u64 a2_1, .int .i64 a2_2] 24 ?_; intro gb395 hg w20 BK395 hb; have GW395 := bg_ hg; have GE395 := GW395; replace HB := bl_ hb; clear hb hg) | ((with_reducible refine gate_dst (N := 6) rfl ?_); refine bx_ 6 #[.int .i64 0, .int .u64 0, .int .i64 0] 24 ?_; intro gb396 hg w21 BK396 hb; have GW396 := bg_ hg; have GE396 := GW396; have NB395_396 := bm_ hg BK395; have NB396_395 := bn_ hg BK395; replace BK395 := bb_ hb BK395; replace HB := bl_ hb; clear hb hg; have hnb22 := NB395_396.out; have hnc22 := NB396_395.out; obtain ⟨zc23_0, zc23_1, zc23_2, zf23_0, zf23_1, zf23_2⟩ := k3_ BK395) | ((with_reducible refine gate_callee (f := 26) rfl ?_); refine gM_ 22 Try.func26 (word_Swap.calls k a0 a1 a2_1 t397 false _ A11.out) ?_; rintro w' ⟨nd, rfl⟩; (try (rw [drewN_self w21]; generalize hq_ : World.drewN w21 _ = w21; have n0_ : Aside0 (w21.heap[gb395]? = some (.cells #[.int .i64 a2_0, .int .u64 a2_1, .int .i64 a2_2] 24 (0, 0))) := ⟨by rw [← hq_]; exact bk_⟩; have n1_ : Aside0 (w21.heap[gb396]? = some (.cells #[.int .i64 0, .int .u64 0, .int .i64 0] 24 (0, 0))) := ⟨by rw [← hq_]; exact bk_⟩; have n2_ : Aside0 (Below w.heap.size w w21) := ⟨by rw [← hq_]; exact bz_⟩; clear BK395 BK396 HB hq_; have BK395 := n0_; have BK396 := n1_; have HB := n2_; clear n0_ n1_ n2_)); obtain ⟨ycgb395_0, ycgb395_1, ycgb395_2, yfgb395_0, yfgb395_1, yfgb395_2⟩ := k3_ BK395; obtain ⟨zc24_0, zc24_1, zc24_2, zf24_0, zf24_1, zf24_2⟩ := k3_ BK396))
    refine bodyPost_ret (results_ct rfl _ _ gb396 24 #[.int .i64 0, .int .u64 0, .int .i64 0] (0, 0) _ rfl (by (with_reducible repeat (first | apply bN_ | apply bD_ | apply bA_)); refine blk_put (cs := #[.int .i64 0, .int .u64 0, .int .i64 0]) ?_ 2 _ rfl; (with_reducible repeat (first | apply bN_ | apply bD_ | apply bA_)); refine blk_put (cs := #[.int .i64 0, .int .u64 0, .int .i64 0]) ?_ 1 _ rfl; (with_reducible repeat (first | apply bN_ | apply bD_ | apply bA_)); refine blk_put (cs := #[.int .i64 0, .int .u64 0, .int .i64 0]) ?_ 0 _ rfl; exact bk_) Try.underlying24 rfl (by kernel_rfl)) rfl ?_
    exact ⟨vv_, bz_⟩
  ·rw [if_neg c10] at H
   have c10b0 : (a2_0 == 1) = false := beq_eq_false_iff_ne.mpr c10
   have c10b1 : (a2_0 != 1) = true := bne_iff_ne.mpr c10
   simp only [Option.some.injEq, Prod.mk.injEq] at H
   obtain ⟨rfl, rfl, rfl, rfl⟩ := H
   go_enter Try.func22, Try.ntmps22
   go_wp2_with (first | ((with_reducible refine gate_dst (N := 5) rfl ?_); refine bx_ 5 #[.int .i64 a2_0, .int .u64 a2_1, .int .i64 a2_2] 24 ?_; intro gb395 hg w25 BK395 hb; have GW395 := bg_ hg; have GE395 := GW395; replace HB := bl_ hb; clear hb hg) | ((with_reducible refine gate_dst (N := 6) rfl ?_); refine bx_ 6 #[.int .i64 0, .int .u64 0, .int .i64 0] 24 ?_; intro gb396 hg w26 BK396 hb; have GW396 := bg_ hg; have GE396 := GW396; have NB395_396 := bm_ hg BK395; have NB396_395 := bn_ hg BK395; replace BK395 := bb_ hb BK395; replace HB := bl_ hb; clear hb hg; have hnb27 := NB395_396.out; have hnc27 := NB396_395.out; obtain ⟨zc28_0, zc28_1, zc28_2, zf28_0, zf28_1, zf28_2⟩ := k3_ BK395; obtain ⟨zc29_0, zc29_1, zc29_2, zf29_0, zf29_1, zf29_2⟩ := k3_ BK396))
   refine bodyPost_ret (results_ct rfl _ _ gb396 24 #[.int .i64 0, .int .u64 0, .int .i64 0] (0, 0) _ rfl (by (with_reducible repeat (first | apply bN_ | apply bD_ | apply bA_)); refine blk_put (cs := #[.int .i64 0, .int .u64 0, .int .i64 0]) ?_ 2 _ rfl; (with_reducible repeat (first | apply bN_ | apply bD_ | apply bA_)); refine blk_put (cs := #[.int .i64 0, .int .u64 0, .int .i64 0]) ?_ 1 _ rfl; (with_reducible repeat (first | apply bN_ | apply bD_ | apply bA_)); refine blk_put (cs := #[.int .i64 0, .int .u64 0, .int .i64 0]) ?_ 0 _ rfl; exact bk_) Try.underlying24 rfl (by kernel_rfl)) rfl ?_
   exact ⟨vv_, bz_⟩

end Go.Proofs.Ytnpbhippkcikoaa.PA
