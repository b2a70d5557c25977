-- PRINTED by print.py (a twelfth state) out of the translation. Not trusted: Lean checks it.
import Derived.Test.YtnpbhippkcikoaaPA0
import Derived.Test.YtnpbhippkcikoaaSq
import Derived.Test.YtnpbhippkcikoaaPA11
namespace Go.Proofs.Ytnpbhippkcikoaa.PA
open Go.RowKit Go.Proofs.YtnpbhippkcikoaaW.PrintWords Go.Proofs.YtnpbhippkcikoaaW.PrintLast Go.Proofs.YtnpbhippkcikoaaW.PrintMore
attribute [local go_sem] max2_int min2_int max_two min_two max_three min_three max_four min_four   -- for this text's walks alone
set_option linter.unusedVariables false
set_option linter.unusedSimpArgs false

/-! ### lockgateref01_divide: function 43 -/
mutual
def lockgateref01_divide.l0 : Nat → Int → Int → Int → Int → Int → Option (Int × Int)
 | 0, _, _, _, _, _ => none
 | k + 1, x0, x1, x6, x7, x8 => if x8 ≥ 0 then ((lockgateref01_bit.f x7 63).bind fun t153 => ((lockgateref01_bit.f x0 x8).bind fun t154 => (if t153 = 1 then (lockgateref01_divide.j1 k x0 x1 x6 (IntKind.u64.wrap ((IntKind.u64.wrap (x7 * 2)) + t154)) x8 true) else (lockgateref01_divide.j1 k x0 x1 x6 (IntKind.u64.wrap ((IntKind.u64.wrap (x7 * 2)) + t154)) x8 (decide ((IntKind.u64.wrap ((IntKind.u64.wrap (x7 * 2)) + t154)) ≥ x1)))))) else (some (x6, x7))
def lockgateref01_divide.j1 : Nat → Int → Int → Int → Int → Int → Bool → Option (Int × Int)
 | 0, _, _, _, _, _, _ => none
 | k + 1, x0, x1, x6, x7, x8, x28 => if x28 = true then ((lockgateref01_not.f k x1).bind fun t155 => ((lockgateref01_add.f k x7 t155 1).bind fun t156 => (if 0 ≤ (IntKind.u64.wrap (x8)) then (lockgateref01_divide.l0 k x0 x1 (Go.bits .or .u64 x6 (shl .u64 1 (IntKind.u64.wrap (x8)))) t156 (wrap64 (x8 - 1))) else (none)))) else (lockgateref01_divide.l0 k x0 x1 x6 x7 (wrap64 (x8 - 1)))
end
def lockgateref01_divide.f (k : Nat) (a0 : Int) (a1 : Int) : Option (Int × Int) := lockgateref01_divide.l0 k a0 a1 0 0 63
theorem lockgateref01_divide.mono_l : ∀ k, (∀ y0 y1 y2 y3 y4, LeO (lockgateref01_divide.l0 k y0 y1 y2 y3 y4) (lockgateref01_divide.l0 (k + 1) y0 y1 y2 y3 y4)) ∧ (∀ y0 y1 y2 y3 y4 y5, LeO (lockgateref01_divide.j1 k y0 y1 y2 y3 y4 y5) (lockgateref01_divide.j1 (k + 1) y0 y1 y2 y3 y4 y5))
 | 0 => ⟨fun _ _ _ _ _ r h => by simp [lockgateref01_divide.l0] at h, fun _ _ _ _ _ _ r h => by simp [lockgateref01_divide.j1] at h⟩
 | k + 1 => by
  obtain ⟨ih0, ih1⟩ := lockgateref01_divide.mono_l k
  refine ⟨?_, ?_⟩
  ·intro y0 y1 y2 y3 y4
   unfold lockgateref01_divide.l0
   repeat' first
   | (with_reducible exact ih0 _ _ _ _ _)
   | (with_reducible exact ih1 _ _ _ _ _ _)
   | (with_reducible exact lockgateref01_add.mono _ _ _ _)
   | (with_reducible exact lockgateref01_not.mono _ _)
   | (with_reducible exact LeO.refl _)
   | (with_reducible exact LeO.none _)
   | (with_reducible refine LeO.ite ?_ ?_)
   | (with_reducible refine LeO.bind ?_ (fun _ => ?_))
   | exact ih0 _ _ _ _ _
   | exact ih1 _ _ _ _ _ _
   | exact lockgateref01_add.mono _ _ _ _
   | exact lockgateref01_not.mono _ _
   | exact LeO.none _
   | refine LeO.ite ?_ ?_
   | refine LeO.bind ?_ (fun _ => ?_)
  ·intro y0 y1 y2 y3 y4 y5
   unfold lockgateref01_divide.j1
   repeat' first
   | (with_reducible exact ih0 _ _ _ _ _)
   | (with_reducible exact ih1 _ _ _ _ _ _)
   | (with_reducible exact lockgateref01_add.mono _ _ _ _)
   | (with_reducible exact lockgateref01_not.mono _ _)
   | (with_reducible exact LeO.refl _)
   | (with_reducible exact LeO.none _)
   | (with_reducible refine LeO.ite ?_ ?_)
   | (with_reducible refine LeO.bind ?_ (fun _ => ?_))
   | exact ih0 _ _ _ _ _
   | exact ih1 _ _ _ _ _ _
   | exact lockgateref01_add.mono _ _ _ _
   | exact lockgateref01_not.mono _ _
   | exact LeO.none _
   | refine LeO.ite ?_ ?_
   | refine LeO.bind ?_ (fun _ => ?_)
theorem lockgateref01_divide.mono : ∀ a0 a1 k, LeO (lockgateref01_divide.f k a0 a1) (lockgateref01_divide.f (k + 1) a0 a1) := by
 intro a0 a1 k
 obtain ⟨ih0, ih1⟩ := lockgateref01_divide.mono_l k
 unfold lockgateref01_divide.f
 repeat' first
  | (with_reducible exact ih0 _ _ _ _ _)
  | (with_reducible exact ih1 _ _ _ _ _ _)
  | (with_reducible exact lockgateref01_add.mono _ _ _ _)
  | (with_reducible exact lockgateref01_not.mono _ _)
  | (with_reducible exact LeO.refl _)
  | (with_reducible exact LeO.none _)
  | (with_reducible refine LeO.ite ?_ ?_)
  | (with_reducible refine LeO.bind ?_ (fun _ => ?_))
  | exact ih0 _ _ _ _ _
  | exact ih1 _ _ _ _ _ _
  | exact lockgateref01_add.mono _ _ _ _
  | exact lockgateref01_not.mono _ _
  | exact LeO.none _
  | refine LeO.ite ?_ ?_
  | refine LeO.bind ?_ (fun _ => ?_)
set_option maxHeartbeats 8000000 in
set_option maxRecDepth 100000 in
theorem lockgateref01_divide.calls (k : Nat) (a0 : Int) (a1 : Int) (r1 : Int) (r2 : Int) (w : World) (h : lockgateref01_divide.f k a0 a1 = some (r1, r2)) :
 Calls Try.prog 43 #[.int .u64 a0, .int .u64 a1] w fun e w' => e = .returned (.tuple #[.int .u64 r1, .int .u64 r2]) ∧ Drawn0 w w' := by
 have H : (lockgateref01_divide.l0 k a0 a1 0 0 63) = some (r1, r2) := h
 clear h
 have H' := Aside0.mk H
 clear H
 go_enter Try.func43, Try.ntmps43
 go_wp2
 go_loopg [6, 7, 8] k (fun kq v6 v7 v8 w' => ∃ (x6_1 : Int) (x7_1 : Int) (x8_1 : Int), v6 = .int .u64 x6_1 ∧ v7 = .int .u64 x7_1 ∧ v8 = .int .i64 x8_1 ∧ Aside0 (lockgateref01_divide.l0 kq a0 a1 x6_1 x7_1 x8_1 = some (r1, r2)) ∧ Aside0 (kq ≤ k) ∧ Drawn0 w w')
 case atStart => exact ⟨(0), (0), (63), (by first | rfl | (simp; done) | (simp [*]; done)), (by first | rfl | (simp; done) | (simp [*]; done)), (by first | rfl | (simp; done) | (simp [*]; done)), H', ⟨Nat.le_refl _⟩, by repeat (first | exact Drawn0.refl _ | apply Drawn0.step)⟩
 case round =>
  clear H'
  try clear p2
  obtain ⟨x6_1, x7_1, x8_1, rfl, rfl, rfl, HA, HK1, ⟨m1, rfl⟩⟩ := hrel
  cases gk with
  | zero => exact absurd HA.out (by simp [lockgateref01_divide.l0])
  | succ k1 =>
   have H := HA.out
   clear HA
   simp only [lockgateref01_divide.l0] at H
   by_cases c3 : x8_1 ≥ 0
   ·rw [if_pos c3] at H
    have c3b0 : decide (0 ≤ x8_1) = true := decide_eq_true c3
    clear c3
    replace H := Option.bind_eq_some_iff.mp H
    obtain ⟨t153, A40, H⟩ := H
    replace H : ((lockgateref01_bit.f a0 x8_1).bind fun t154 => (if t153 = 1 then (lockgateref01_divide.j1 k1 a0 a1 x6_1 (IntKind.u64.wrap ((IntKind.u64.wrap (x7_1 * 2)) + t154)) x8_1 true) else (lockgateref01_divide.j1 k1 a0 a1 x6_1 (IntKind.u64.wrap ((IntKind.u64.wrap (x7_1 * 2)) + t154)) x8_1 (decide ((IntKind.u64.wrap ((IntKind.u64.wrap (x7_1 * 2)) + t154)) ≥ a1))))) = some (r1, r2) := H
    have A4 := Aside0.mk A40
    clear A40
    replace H := Option.bind_eq_some_iff.mp H
    obtain ⟨t154, A50, H⟩ := H
    replace H : (if t153 = 1 then (lockgateref01_divide.j1 k1 a0 a1 x6_1 (IntKind.u64.wrap ((IntKind.u64.wrap (x7_1 * 2)) + t154)) x8_1 true) else (lockgateref01_divide.j1 k1 a0 a1 x6_1 (IntKind.u64.wrap ((IntKind.u64.wrap (x7_1 * 2)) + t154)) x8_1 (decide ((IntKind.u64.wrap ((IntKind.u64.wrap (x7_1 * 2)) + t154)) ≥ a1)))) = some (r1, r2) := H
    have A5 := Aside0.mk A50
    clear A50
    have HC6 := Aside0.mk H
    clear H
    go_upto_region 8 with (first | ((with_reducible refine gate_callee (f := 46) rfl ?_); refine gM_ 15 Try.func46 (lockgateref01_bit.calls x7_1 63 t153 _ A4.out) ?_; rintro w' ⟨nd, rfl⟩) | ((with_reducible refine gate_callee (f := 46) rfl ?_); refine gM_ 20 Try.func46 (lockgateref01_bit.calls a0 x8_1 t154 _ A5.out) ?_; rintro w' ⟨nd, rfl⟩))
    (try simp only [Act.put, s1_, s2_, s3_])
    go_cut [28] (fun v28 wc => ∃ (kq : Nat) (x28_5 : Bool), v28 = .bool x28_5 ∧ Aside0 (lockgateref01_divide.j1 kq a0 a1 x6_1 (IntKind.u64.wrap ((IntKind.u64.wrap (x7_1 * 2)) + t154)) x8_1 x28_5 = some (r1, r2)) ∧ Aside0 (kq ≤ k1) ∧ Drawn0 w wc)
    case first =>
     have H := HC6.out
     clear HC6
     by_cases c7 : t153 = 1
     ·rw [if_pos c7] at H
      have c7b0 : (t153 == 1) = true := beq_iff_eq.mpr c7
      have c7b1 : (t153 != 1) = false := bne_eq_false_iff_eq.mpr c7
      clear c7
      (first | rw [c7b0] | (simp only [i64_w, i32_w]; rw [c7b0]) | skip)
      have H' := Aside0.mk H
      clear H
      go_wp2
      go_meet
      case rel => exact ⟨_, (true), (by first | rfl | (simp; done) | (simp [*]; done)), H', ⟨by have := HK1.out; first | omega | exact Nat.le_refl _⟩, by repeat (first | exact Drawn0.refl _ | apply Drawn0.step)⟩
     ·rw [if_neg c7] at H
      have c7b0 : (t153 == 1) = false := beq_eq_false_iff_ne.mpr c7
      have c7b1 : (t153 != 1) = true := bne_iff_ne.mpr c7
      (first | rw [c7b0] | (simp only [i64_w, i32_w]; rw [c7b0]) | skip)
      have H' := Aside0.mk H
      clear H
      go_wp2
      go_meet
      case rel => exact ⟨_, (decide ((IntKind.u64.wrap ((IntKind.u64.wrap (x7_1 * 2)) + t154)) ≥ a1)), (by first | rfl | (simp; done) | (simp [*]; done)), H', ⟨by have := HK1.out; first | omega | exact Nat.le_refl _⟩, by repeat (first | exact Drawn0.refl _ | apply Drawn0.step)⟩
    case rest =>
     clear HC6
     try clear p2
     try clear c3
     try clear c3b0
     try clear c4
     try clear c7
     try clear c7b0
     try clear c7b1
     try clear p2
     obtain ⟨kq, x28_5, rfl, HA, HJ5, ⟨mc5, rfl⟩⟩ := hcut
     cases kq with
     | zero => exact absurd HA.out (by simp [lockgateref01_divide.j1])
     | succ kj5 =>
      have H := HA.out
      clear HA
      simp only [lockgateref01_divide.j1] at H
      by_cases c8 : x28_5 = true
      ·subst c8
       have H1 : ((lockgateref01_not.f kj5 a1).bind fun t155 => ((lockgateref01_add.f kj5 (IntKind.u64.wrap ((IntKind.u64.wrap (x7_1 * 2)) + t154)) t155 1).bind fun t156 => (if 0 ≤ (IntKind.u64.wrap (x8_1)) then (lockgateref01_divide.l0 kj5 a0 a1 (Go.bits .or .u64 x6_1 (shl .u64 1 (IntKind.u64.wrap (x8_1)))) t156 (wrap64 (x8_1 - 1))) else (none)))) = some (r1, r2) := by rw [if_pos rfl] at H; exact H
       clear H
       have H := H1
       clear H1
       replace H := Option.bind_eq_some_iff.mp H
       obtain ⟨t155, A90, H⟩ := H
       replace H : ((lockgateref01_add.f kj5 (IntKind.u64.wrap ((IntKind.u64.wrap (x7_1 * 2)) + t154)) t155 1).bind fun t156 => (if 0 ≤ (IntKind.u64.wrap (x8_1)) then (lockgateref01_divide.l0 kj5 a0 a1 (Go.bits .or .u64 x6_1 (shl .u64 1 (IntKind.u64.wrap (x8_1)))) t156 (wrap64 (x8_1 - 1))) else (none))) = some (r1, r2) := H
       have A9 := Aside0.mk A90
       clear A90
       replace H := Option.bind_eq_some_iff.mp H
       obtain ⟨t156, A100, H⟩ := H
       replace H : (if 0 ≤ (IntKind.u64.wrap (x8_1)) then (lockgateref01_divide.l0 kj5 a0 a1 (Go.bits .or .u64 x6_1 (shl .u64 1 (IntKind.u64.wrap (x8_1)))) t156 (wrap64 (x8_1 - 1))) else (none)) = some (r1, r2) := H
       have A10 := Aside0.mk A100
       clear A100
       obtain ⟨ji11, hji11⟩ : ∃ j_ : Int, (IntKind.u64.wrap (x8_1)) = j_ := ⟨_, rfl⟩
       replace H : (if 0 ≤ (ji11) then (lockgateref01_divide.l0 kj5 a0 a1 (Go.bits .or .u64 x6_1 (shl .u64 1 (ji11))) t156 (wrap64 (x8_1 - 1))) else (none)) = some (r1, r2) := by first | (rw [hji11] at H; exact H) | (simp only [hji11] at H ⊢; exact H)
       (try rw [hji11] at A9)
       (try rw [hji11] at A10)
       by_cases c12 : 0 ≤ (ji11)
       ·rw [if_pos c12] at H
        have c12b0 := eq_true c12
        have c12b1 : decide (0 ≤ (ji11)) = true := decide_eq_true c12
        clear c12
        obtain ⟨ji13, hji13⟩ : ∃ j_ : Int, (shl .u64 1 (ji11)) = j_ := ⟨_, rfl⟩
        replace H : (lockgateref01_divide.l0 kj5 a0 a1 (Go.bits .or .u64 x6_1 (ji13)) t156 (wrap64 (x8_1 - 1))) = some (r1, r2) := by first | (rw [hji13] at H; exact H) | (simp only [hji13] at H ⊢; exact H)
        (try rw [hji13] at A9)
        (try rw [hji13] at A10)
        have hji13_ : (IntKind.u64.wrap (1 * 2 ^ min (ji11).toNat 64)) = ji13 := hji13
        have hji13z : (ji11) ≤ 64 → (IntKind.u64.wrap (1 * 2 ^ (ji11).toNat)) = ji13 := shl_small hji13
        have hji13u : (IntKind.u64.wrap (2 ^ min (ji11).toNat 64)) = ji13 := by have h_ := hji13_; rw [Int.one_mul] at h_; exact h_
        have hji13v : (ji11) ≤ 64 → (IntKind.u64.wrap (2 ^ (ji11).toNat)) = ji13 := fun hle_ => by have h_ := hji13z hle_; rw [Int.one_mul] at h_; exact h_
        have H' := Aside0.mk H
        clear H
        go_wp2_with (first | ((with_reducible refine gate_callee (f := 41) rfl ?_); refine gM_ 31 Try.func41 (lockgateref01_not.calls kj5 a1 t155 _ A9.out) ?_; rintro w' ⟨nd, rfl⟩) | ((with_reducible refine gate_callee (f := 40) rfl ?_); refine goesL_ (some 32) rfl rfl Try.func40 (by kernel_rfl) rfl #[.int .u64 (IntKind.u64.wrap ((IntKind.u64.wrap (x7_1 * 2)) + t154)), .int .u64 t155, .int .u64 1] rfl mp_ ?_; (with_reducible refine (lockgateref01_add.calls kj5 (IntKind.u64.wrap ((IntKind.u64.wrap (x7_1 * 2)) + t154)) t155 1 t156 _ A10.out).mono ?_); rintro e w' ⟨rfl, ⟨nd, rfl⟩⟩; refine ⟨_, rfl, ?_⟩))
        go_roundg kj5
        case measure => have := HK1.out; have := HJ5.out; omega
        case rel => exact ⟨(Go.bits .or .u64 x6_1 (ji13)), (t156), (wrap64 (x8_1 - 1)), (by first | rfl | (simp; done) | (simp only [← hji13] <;> (first | rfl | simp)) | (simp [*]; done)), (by first | rfl | (simp; done) | (simp [*]; done)), (by first | rfl | (simp; done) | (simp [*]; done)), H', ⟨by have := HK1.out; have := HJ5.out; omega⟩, by repeat (first | exact Drawn0.refl _ | apply Drawn0.step)⟩
       ·rw [if_neg c12] at H
        exact absurd H (by simp)
      ·replace c8 := Bool.eq_false_iff.mpr c8
       subst c8
       have H1 : (lockgateref01_divide.l0 kj5 a0 a1 x6_1 (IntKind.u64.wrap ((IntKind.u64.wrap (x7_1 * 2)) + t154)) (wrap64 (x8_1 - 1))) = some (r1, r2) := by rw [if_neg (show ¬ (false = true) by decide)] at H; exact H
       clear H
       have H := H1
       clear H1
       have H' := Aside0.mk H
       clear H
       go_wp2
       go_roundg kj5
       case measure => have := HK1.out; have := HJ5.out; omega
       case rel => exact ⟨(x6_1), ((IntKind.u64.wrap ((IntKind.u64.wrap (x7_1 * 2)) + t154))), (wrap64 (x8_1 - 1)), (by first | rfl | (simp; done) | (simp [*]; done)), (by first | rfl | (simp; done) | (simp [*]; done)), (by first | rfl | (simp; done) | (simp [*]; done)), H', ⟨by have := HK1.out; have := HJ5.out; omega⟩, by repeat (first | exact Drawn0.refl _ | apply Drawn0.step)⟩
   ·rw [if_neg c3] at H
    have c3b0 : decide (0 ≤ x8_1) = false := decide_eq_false c3
    clear c3
    simp only [Option.some.injEq, Prod.mk.injEq] at H
    obtain ⟨rfl, rfl⟩ := H
    go_wp2
    go_ret2
    exact ⟨by first | rfl | (simp; done) | (simp [*]; done), by repeat (first | exact Drawn0.refl _ | apply Drawn0.step)⟩

/-! ### lockgateref01_bits: function 44 -/
def lockgateref01_bits.l0 : Nat → Int → Int → Int → Int → Int → Option (Int)
 | 0, _, _, _, _, _ => none
 | k + 1, x0, x1, x2, x7, x8 => if x8 < 64 then ((lockgateref01_bit.f x1 x8).bind fun t157 => ((lockgateref01_bit.f x2 x8).bind fun t158 => (if x0 = 4 then (if (IntKind.u64.wrap (t157 + t158)) > 0 then (if 0 ≤ (IntKind.u64.wrap (x8)) then (lockgateref01_bits.l0 k x0 x1 x2 (Go.bits .or .u64 x7 (shl .u64 1 (IntKind.u64.wrap (x8)))) (wrap64 (x8 + 1))) else (none)) else (if x0 = 5 then (if (IntKind.u64.wrap (t157 + t158)) = 2 then (if 0 ≤ (IntKind.u64.wrap (x8)) then (lockgateref01_bits.l0 k x0 x1 x2 (Go.bits .or .u64 x7 (shl .u64 1 (IntKind.u64.wrap (x8)))) (wrap64 (x8 + 1))) else (none)) else (if x0 = 10 then (if (IntKind.u64.wrap (t157 + t158)) = 1 then (if 0 ≤ (IntKind.u64.wrap (x8)) then (lockgateref01_bits.l0 k x0 x1 x2 (Go.bits .or .u64 x7 (shl .u64 1 (IntKind.u64.wrap (x8)))) (wrap64 (x8 + 1))) else (none)) else (lockgateref01_bits.l0 k x0 x1 x2 x7 (wrap64 (x8 + 1)))) else (lockgateref01_bits.l0 k x0 x1 x2 x7 (wrap64 (x8 + 1))))) else (if x0 = 10 then (if (IntKind.u64.wrap (t157 + t158)) = 1 then (if 0 ≤ (IntKind.u64.wrap (x8)) then (lockgateref01_bits.l0 k x0 x1 x2 (Go.bits .or .u64 x7 (shl .u64 1 (IntKind.u64.wrap (x8)))) (wrap64 (x8 + 1))) else (none)) else (lockgateref01_bits.l0 k x0 x1 x2 x7 (wrap64 (x8 + 1)))) else (lockgateref01_bits.l0 k x0 x1 x2 x7 (wrap64 (x8 + 1)))))) else (if x0 = 5 then (if (IntKind.u64.wrap (t157 + t158)) = 2 then (if 0 ≤ (IntKind.u64.wrap (x8)) then (lockgateref01_bits.l0 k x0 x1 x2 (Go.bits .or .u64 x7 (shl .u64 1 (IntKind.u64.wrap (x8)))) (wrap64 (x8 + 1))) else (none)) else (if x0 = 10 then (if (IntKind.u64.wrap (t157 + t158)) = 1 then (if 0 ≤ (IntKind.u64.wrap (x8)) then (lockgateref01_bits.l0 k x0 x1 x2 (Go.bits .or .u64 x7 (shl .u64 1 (IntKind.u64.wrap (x8)))) (wrap64 (x8 + 1))) else (none)) else (lockgateref01_bits.l0 k x0 x1 x2 x7 (wrap64 (x8 + 1)))) else (lockgateref01_bits.l0 k x0 x1 x2 x7 (wrap64 (x8 + 1))))) else (if x0 = 10 then (if (IntKind.u64.wrap (t157 + t158)) = 1 then (if 0 ≤ (IntKind.u64.wrap (x8)) then (lockgateref01_bits.l0 k x0 x1 x2 (Go.bits .or .u64 x7 (shl .u64 1 (IntKind.u64.wrap (x8)))) (wrap64 (x8 + 1))) else (none)) else (lockgateref01_bits.l0 k x0 x1 x2 x7 (wrap64 (x8 + 1)))) else (lockgateref01_bits.l0 k x0 x1 x2 x7 (wrap64 (x8 + 1)))))))) else (some x7)
def lockgateref01_bits.f (k : Nat) (a0 : Int) (a1 : Int) (a2 : Int) : Option (Int) := lockgateref01_bits.l0 k a0 a1 a2 0 0
theorem lockgateref01_bits.mono_l : ∀ k, (∀ y0 y1 y2 y3 y4, LeO (lockgateref01_bits.l0 k y0 y1 y2 y3 y4) (lockgateref01_bits.l0 (k + 1) y0 y1 y2 y3 y4))
 | 0 => fun _ _ _ _ _ r h => by simp [lockgateref01_bits.l0] at h
 | k + 1 => by
  have ih0 := lockgateref01_bits.mono_l k
  ·intro y0 y1 y2 y3 y4
   unfold lockgateref01_bits.l0
   repeat' first
   | (with_reducible exact ih0 _ _ _ _ _)
   | (with_reducible exact LeO.refl _)
   | (with_reducible exact LeO.none _)
   | (with_reducible refine LeO.ite ?_ ?_)
   | (with_reducible refine LeO.bind ?_ (fun _ => ?_))
   | exact ih0 _ _ _ _ _
   | exact LeO.none _
   | refine LeO.ite ?_ ?_
   | refine LeO.bind ?_ (fun _ => ?_)
theorem lockgateref01_bits.mono : ∀ a0 a1 a2 k, LeO (lockgateref01_bits.f k a0 a1 a2) (lockgateref01_bits.f (k + 1) a0 a1 a2) := by
 intro a0 a1 a2 k
 have ih0 := lockgateref01_bits.mono_l k
 unfold lockgateref01_bits.f
 repeat' first
  | (with_reducible exact ih0 _ _ _ _ _)
  | (with_reducible exact LeO.refl _)
  | (with_reducible exact LeO.none _)
  | (with_reducible refine LeO.ite ?_ ?_)
  | (with_reducible refine LeO.bind ?_ (fun _ => ?_))
  | exact ih0 _ _ _ _ _
  | exact LeO.none _
  | refine LeO.ite ?_ ?_
  | refine LeO.bind ?_ (fun _ => ?_)
set_option maxHeartbeats 8000000 in
set_option maxRecDepth 100000 in
theorem lockgateref01_bits.calls (k : Nat) (a0 : Int) (a1 : Int) (a2 : Int) (r : Int) (w : World) (h : lockgateref01_bits.f k a0 a1 a2 = some r) :
 Calls Try.prog 44 #[.int .i64 a0, .int .u64 a1, .int .u64 a2] w fun e w' => e = .returned (.int .u64 r) ∧ Drawn0 w w' := by
 have H : (lockgateref01_bits.l0 k a0 a1 a2 0 0) = some r := h
 clear h
 have H' := Aside0.mk H
 clear H
 go_enter Try.func44, Try.ntmps44
 go_wp2
 go_loopg [7, 8] k (fun kq v7 v8 w' => ∃ (x7_1 : Int) (x8_1 : Int), v7 = .int .u64 x7_1 ∧ v8 = .int .i64 x8_1 ∧ Aside0 (lockgateref01_bits.l0 kq a0 a1 a2 x7_1 x8_1 = some r) ∧ Aside0 (kq ≤ k) ∧ Drawn0 w w')
 case atStart => exact ⟨(0), (0), (by first | rfl | (simp; done) | (simp [*]; done)), (by first | rfl | (simp; done) | (simp [*]; done)), H', ⟨Nat.le_refl _⟩, by repeat (first | exact Drawn0.refl _ | apply Drawn0.step)⟩
 case round =>
  clear H'
  try clear p2
  obtain ⟨x7_1, x8_1, rfl, rfl, HA, HK1, ⟨m1, rfl⟩⟩ := hrel
  cases gk with
  | zero => exact absurd HA.out (by simp [lockgateref01_bits.l0])
  | succ k1 =>
   have H := HA.out
   clear HA
   simp only [lockgateref01_bits.l0] at H
   by_cases c4 : x8_1 < 64
   ·rw [if_pos c4] at H
    have c4b0 : decide (x8_1 < 64) = true := decide_eq_true c4
    clear c4
    replace H := Option.bind_eq_some_iff.mp H
    obtain ⟨t157, A50, H⟩ := H
    replace H : ((lockgateref01_bit.f a2 x8_1).bind fun t158 => (if a0 = 4 then (if (IntKind.u64.wrap (t157 + t158)) > 0 then (if 0 ≤ (IntKind.u64.wrap (x8_1)) then (lockgateref01_bits.l0 k1 a0 a1 a2 (Go.bits .or .u64 x7_1 (shl .u64 1 (IntKind.u64.wrap (x8_1)))) (wrap64 (x8_1 + 1))) else (none)) else (if a0 = 5 then (if (IntKind.u64.wrap (t157 + t158)) = 2 then (if 0 ≤ (IntKind.u64.wrap (x8_1)) then (lockgateref01_bits.l0 k1 a0 a1 a2 (Go.bits .or .u64 x7_1 (shl .u64 1 (IntKind.u64.wrap (x8_1)))) (wrap64 (x8_1 + 1))) else (none)) else (if a0 = 10 then (if (IntKind.u64.wrap (t157 + t158)) = 1 then (if 0 ≤ (IntKind.u64.wrap (x8_1)) then (lockgateref01_bits.l0 k1 a0 a1 a2 (Go.bits .or .u64 x7_1 (shl .u64 1 (IntKind.u64.wrap (x8_1)))) (wrap64 (x8_1 + 1))) else (none)) else (lockgateref01_bits.l0 k1 a0 a1 a2 x7_1 (wrap64 (x8_1 + 1)))) else (lockgateref01_bits.l0 k1 a0 a1 a2 x7_1 (wrap64 (x8_1 + 1))))) else (if a0 = 10 then (if (IntKind.u64.wrap (t157 + t158)) = 1 then (if 0 ≤ (IntKind.u64.wrap (x8_1)) then (lockgateref01_bits.l0 k1 a0 a1 a2 (Go.bits .or .u64 x7_1 (shl .u64 1 (IntKind.u64.wrap (x8_1)))) (wrap64 (x8_1 + 1))) else (none)) else (lockgateref01_bits.l0 k1 a0 a1 a2 x7_1 (wrap64 (x8_1 + 1)))) else (lockgateref01_bits.l0 k1 a0 a1 a2 x7_1 (wrap64 (x8_1 + 1)))))) else (if a0 = 5 then (if (IntKind.u64.wrap (t157 + t158)) = 2 then (if 0 ≤ (IntKind.u64.wrap (x8_1)) then (lockgateref01_bits.l0 k1 a0 a1 a2 (Go.bits .or .u64 x7_1 (shl .u64 1 (IntKind.u64.wrap (x8_1)))) (wrap64 (x8_1 + 1))) else (none)) else (if a0 = 10 then (if (IntKind.u64.wrap (t157 + t158)) = 1 then (if 0 ≤ (IntKind.u64.wrap (x8_1)) then (lockgateref01_bits.l0 k1 a0 a1 a2 (Go.bits .or .u64 x7_1 (shl .u64 1 (IntKind.u64.wrap (x8_1)))) (wrap64 (x8_1 + 1))) else (none)) else (lockgateref01_bits.l0 k1 a0 a1 a2 x7_1 (wrap64 (x8_1 + 1)))) else (lockgateref01_bits.l0 k1 a0 a1 a2 x7_1 (wrap64 (x8_1 + 1))))) else (if a0 = 10 then (if (IntKind.u64.wrap (t157 + t158)) = 1 then (if 0 ≤ (IntKind.u64.wrap (x8_1)) then (lockgateref01_bits.l0 k1 a0 a1 a2 (Go.bits .or .u64 x7_1 (shl .u64 1 (IntKind.u64.wrap (x8_1)))) (wrap64 (x8_1 + 1))) else (none)) else (lockgateref01_bits.l0 k1 a0 a1 a2 x7_1 (wrap64 (x8_1 + 1)))) else (lockgateref01_bits.l0 k1 a0 a1 a2 x7_1 (wrap64 (x8_1 + 1))))))) = some r := H
    have A5 := Aside0.mk A50
    clear A50
    replace H := Option.bind_eq_some_iff.mp H
    obtain ⟨t158, A60, H⟩ := H
    replace H : (if a0 = 4 then (if (IntKind.u64.wrap (t157 + t158)) > 0 then (if 0 ≤ (IntKind.u64.wrap (x8_1)) then (lockgateref01_bits.l0 k1 a0 a1 a2 (Go.bits .or .u64 x7_1 (shl .u64 1 (IntKind.u64.wrap (x8_1)))) (wrap64 (x8_1 + 1))) else (none)) else (if a0 = 5 then (if (IntKind.u64.wrap (t157 + t158)) = 2 then (if 0 ≤ (IntKind.u64.wrap (x8_1)) then (lockgateref01_bits.l0 k1 a0 a1 a2 (Go.bits .or .u64 x7_1 (shl .u64 1 (IntKind.u64.wrap (x8_1)))) (wrap64 (x8_1 + 1))) else (none)) else (if a0 = 10 then (if (IntKind.u64.wrap (t157 + t158)) = 1 then (if 0 ≤ (IntKind.u64.wrap (x8_1)) then (lockgateref01_bits.l0 k1 a0 a1 a2 (Go.bits .or .u64 x7_1 (shl .u64 1 (IntKind.u64.wrap (x8_1)))) (wrap64 (x8_1 + 1))) else (none)) else (lockgateref01_bits.l0 k1 a0 a1 a2 x7_1 (wrap64 (x8_1 + 1)))) else (lockgateref01_bits.l0 k1 a0 a1 a2 x7_1 (wrap64 (x8_1 + 1))))) else (if a0 = 10 then (if (IntKind.u64.wrap (t157 + t158)) = 1 then (if 0 ≤ (IntKind.u64.wrap (x8_1)) then (lockgateref01_bits.l0 k1 a0 a1 a2 (Go.bits .or .u64 x7_1 (shl .u64 1 (IntKind.u64.wrap (x8_1)))) (wrap64 (x8_1 + 1))) else (none)) else (lockgateref01_bits.l0 k1 a0 a1 a2 x7_1 (wrap64 (x8_1 + 1)))) else (lockgateref01_bits.l0 k1 a0 a1 a2 x7_1 (wrap64 (x8_1 + 1)))))) else (if a0 = 5 then (if (IntKind.u64.wrap (t157 + t158)) = 2 then (if 0 ≤ (IntKind.u64.wrap (x8_1)) then (lockgateref01_bits.l0 k1 a0 a1 a2 (Go.bits .or .u64 x7_1 (shl .u64 1 (IntKind.u64.wrap (x8_1)))) (wrap64 (x8_1 + 1))) else (none)) else (if a0 = 10 then (if (IntKind.u64.wrap (t157 + t158)) = 1 then (if 0 ≤ (IntKind.u64.wrap (x8_1)) then (lockgateref01_bits.l0 k1 a0 a1 a2 (Go.bits .or .u64 x7_1 (shl .u64 1 (IntKind.u64.wrap (x8_1)))) (wrap64 (x8_1 + 1))) else (none)) else (lockgateref01_bits.l0 k1 a0 a1 a2 x7_1 (wrap64 (x8_1 + 1)))) else (lockgateref01_bits.l0 k1 a0 a1 a2 x7_1 (wrap64 (x8_1 + 1))))) else (if a0 = 10 then (if (IntKind.u64.wrap (t157 + t158)) = 1 then (if 0 ≤ (IntKind.u64.wrap (x8_1)) then (lockgateref01_bits.l0 k1 a0 a1 a2 (Go.bits .or .u64 x7_1 (shl .u64 1 (IntKind.u64.wrap (x8_1)))) (wrap64 (x8_1 + 1))) else (none)) else (lockgateref01_bits.l0 k1 a0 a1 a2 x7_1 (wrap64 (x8_1 + 1)))) else (lockgateref01_bits.l0 k1 a0 a1 a2 x7_1 (wrap64 (x8_1 + 1)))))) = some r := H
    have A6 := Aside0.mk A60
    clear A60
    by_cases c7 : a0 = 4
    ·rw [if_pos c7] at H
     have c7b0 : (a0 == 4) = true := beq_iff_eq.mpr c7
     have c7b1 : (a0 != 4) = false := bne_eq_false_iff_eq.mpr c7
     clear c7
     by_cases c8 : (IntKind.u64.wrap (t157 + t158)) > 0
     ·rw [if_pos c8] at H
      have c8b0 : decide (0 < (IntKind.u64.wrap (t157 + t158))) = true := decide_eq_true c8
      clear c8
      obtain ⟨ji9, hji9⟩ : ∃ j_ : Int, (IntKind.u64.wrap (x8_1)) = j_ := ⟨_, rfl⟩
      replace H : (if 0 ≤ (ji9) then (lockgateref01_bits.l0 k1 a0 a1 a2 (Go.bits .or .u64 x7_1 (shl .u64 1 (ji9))) (wrap64 (x8_1 + 1))) else (none)) = some r := by first | (rw [hji9] at H; exact H) | (simp only [hji9] at H ⊢; exact H)
      (try rw [hji9] at A5)
      (try rw [hji9] at A6)
      by_cases c10 : 0 ≤ (ji9)
      ·rw [if_pos c10] at H
       have c10b0 := eq_true c10
       have c10b1 : decide (0 ≤ (ji9)) = true := decide_eq_true c10
       clear c10
       obtain ⟨ji11, hji11⟩ : ∃ j_ : Int, (shl .u64 1 (ji9)) = j_ := ⟨_, rfl⟩
       replace H : (lockgateref01_bits.l0 k1 a0 a1 a2 (Go.bits .or .u64 x7_1 (ji11)) (wrap64 (x8_1 + 1))) = some r := by first | (rw [hji11] at H; exact H) | (simp only [hji11] at H ⊢; exact H)
       (try rw [hji11] at A5)
       (try rw [hji11] at A6)
       have hji11_ : (IntKind.u64.wrap (1 * 2 ^ min (ji9).toNat 64)) = ji11 := hji11
       have hji11z : (ji9) ≤ 64 → (IntKind.u64.wrap (1 * 2 ^ (ji9).toNat)) = ji11 := shl_small hji11
       have hji11u : (IntKind.u64.wrap (2 ^ min (ji9).toNat 64)) = ji11 := by have h_ := hji11_; rw [Int.one_mul] at h_; exact h_
       have hji11v : (ji9) ≤ 64 → (IntKind.u64.wrap (2 ^ (ji9).toNat)) = ji11 := fun hle_ => by have h_ := hji11z hle_; rw [Int.one_mul] at h_; exact h_
       have H' := Aside0.mk H
       clear H
       go_wp2_with (first | ((with_reducible refine gate_callee (f := 46) rfl ?_); refine gM_ 16 Try.func46 (lockgateref01_bit.calls a1 x8_1 t157 _ A5.out) ?_; rintro w' ⟨nd, rfl⟩) | ((with_reducible refine gate_callee (f := 46) rfl ?_); refine gM_ 19 Try.func46 (lockgateref01_bit.calls a2 x8_1 t158 _ A6.out) ?_; rintro w' ⟨nd, rfl⟩))
       go_roundg k1
       case measure => have := HK1.out; omega
       case rel => exact ⟨(Go.bits .or .u64 x7_1 (ji11)), (wrap64 (x8_1 + 1)), (by first | rfl | (simp; done) | (simp only [← hji11] <;> (first | rfl | simp)) | (simp [*]; done)), (by first | rfl | (simp; done) | (simp [*]; done)), H', ⟨by have := HK1.out; omega⟩, by repeat (first | exact Drawn0.refl _ | apply Drawn0.step)⟩
      ·rw [if_neg c10] at H
       exact absurd H (by simp)
     ·rw [if_neg c8] at H
      have c8b0 : decide (0 < (IntKind.u64.wrap (t157 + t158))) = false := decide_eq_false c8
      clear c8
      by_cases c12 : a0 = 5
      ·rw [if_pos c12] at H
       exact absurd (c12.symm.trans (eq_of_beq c7b0)) (by decide)
      ·rw [if_neg c12] at H
       have c12b0 : (a0 == 5) = false := beq_eq_false_iff_ne.mpr c12
       have c12b1 : (a0 != 5) = true := bne_iff_ne.mpr c12
       by_cases c13 : a0 = 10
       ·rw [if_pos c13] at H
        exact absurd (c13.symm.trans (eq_of_beq c7b0)) (by decide)
       ·rw [if_neg c13] at H
        have c13b0 : (a0 == 10) = false := beq_eq_false_iff_ne.mpr c13
        have c13b1 : (a0 != 10) = true := bne_iff_ne.mpr c13
        have H' := Aside0.mk H
        clear H
        go_wp2_with (first | ((with_reducible refine gate_callee (f := 46) rfl ?_); refine gM_ 16 Try.func46 (lockgateref01_bit.calls a1 x8_1 t157 _ A5.out) ?_; rintro w' ⟨nd, rfl⟩) | ((with_reducible refine gate_callee (f := 46) rfl ?_); refine gM_ 19 Try.func46 (lockgateref01_bit.calls a2 x8_1 t158 _ A6.out) ?_; rintro w' ⟨nd, rfl⟩))
        go_roundg k1
        case measure => have := HK1.out; omega
        case rel => exact ⟨(x7_1), (wrap64 (x8_1 + 1)), (by first | rfl | (simp; done) | (simp [*]; done)), (by first | rfl | (simp; done) | (simp [*]; done)), H', ⟨by have := HK1.out; omega⟩, by repeat (first | exact Drawn0.refl _ | apply Drawn0.step)⟩
    ·rw [if_neg c7] at H
     have c7b0 : (a0 == 4) = false := beq_eq_false_iff_ne.mpr c7
     have c7b1 : (a0 != 4) = true := bne_iff_ne.mpr c7
     by_cases c14 : a0 = 5
     ·rw [if_pos c14] at H
      have c14b0 : (a0 == 5) = true := beq_iff_eq.mpr c14
      have c14b1 : (a0 != 5) = false := bne_eq_false_iff_eq.mpr c14
      clear c14
      by_cases c15 : (IntKind.u64.wrap (t157 + t158)) = 2
      ·rw [if_pos c15] at H
       have c15b0 : ((IntKind.u64.wrap (t157 + t158)) == 2) = true := beq_iff_eq.mpr c15
       have c15b1 : ((IntKind.u64.wrap (t157 + t158)) != 2) = false := bne_eq_false_iff_eq.mpr c15
       clear c15
       obtain ⟨ji16, hji16⟩ : ∃ j_ : Int, (IntKind.u64.wrap (x8_1)) = j_ := ⟨_, rfl⟩
       replace H : (if 0 ≤ (ji16) then (lockgateref01_bits.l0 k1 a0 a1 a2 (Go.bits .or .u64 x7_1 (shl .u64 1 (ji16))) (wrap64 (x8_1 + 1))) else (none)) = some r := by first | (rw [hji16] at H; exact H) | (simp only [hji16] at H ⊢; exact H)
       (try rw [hji16] at A5)
       (try rw [hji16] at A6)
       by_cases c17 : 0 ≤ (ji16)
       ·rw [if_pos c17] at H
        have c17b0 := eq_true c17
        have c17b1 : decide (0 ≤ (ji16)) = true := decide_eq_true c17
        clear c17
        obtain ⟨ji18, hji18⟩ : ∃ j_ : Int, (shl .u64 1 (ji16)) = j_ := ⟨_, rfl⟩
        replace H : (lockgateref01_bits.l0 k1 a0 a1 a2 (Go.bits .or .u64 x7_1 (ji18)) (wrap64 (x8_1 + 1))) = some r := by first | (rw [hji18] at H; exact H) | (simp only [hji18] at H ⊢; exact H)
        (try rw [hji18] at A5)
        (try rw [hji18] at A6)
        have hji18_ : (IntKind.u64.wrap (1 * 2 ^ min (ji16).toNat 64)) = ji18 := hji18
        have hji18z : (ji16) ≤ 64 → (IntKind.u64.wrap (1 * 2 ^ (ji16).toNat)) = ji18 := shl_small hji18
        have hji18u : (IntKind.u64.wrap (2 ^ min (ji16).toNat 64)) = ji18 := by have h_ := hji18_; rw [Int.one_mul] at h_; exact h_
        have hji18v : (ji16) ≤ 64 → (IntKind.u64.wrap (2 ^ (ji16).toNat)) = ji18 := fun hle_ => by have h_ := hji18z hle_; rw [Int.one_mul] at h_; exact h_
        have H' := Aside0.mk H
        clear H
        go_wp2_with (first | ((with_reducible refine gate_callee (f := 46) rfl ?_); refine gM_ 16 Try.func46 (lockgateref01_bit.calls a1 x8_1 t157 _ A5.out) ?_; rintro w' ⟨nd, rfl⟩) | ((with_reducible refine gate_callee (f := 46) rfl ?_); refine gM_ 19 Try.func46 (lockgateref01_bit.calls a2 x8_1 t158 _ A6.out) ?_; rintro w' ⟨nd, rfl⟩))
        go_roundg k1
        case measure => have := HK1.out; omega
        case rel => exact ⟨(Go.bits .or .u64 x7_1 (ji18)), (wrap64 (x8_1 + 1)), (by first | rfl | (simp; done) | (simp only [← hji18] <;> (first | rfl | simp)) | (simp [*]; done)), (by first | rfl | (simp; done) | (simp [*]; done)), H', ⟨by have := HK1.out; omega⟩, by repeat (first | exact Drawn0.refl _ | apply Drawn0.step)⟩
       ·rw [if_neg c17] at H
        exact absurd H (by simp)
      ·rw [if_neg c15] at H
       have c15b0 : ((IntKind.u64.wrap (t157 + t158)) == 2) = false := beq_eq_false_iff_ne.mpr c15
       have c15b1 : ((IntKind.u64.wrap (t157 + t158)) != 2) = true := bne_iff_ne.mpr c15
       by_cases c19 : a0 = 10
       ·rw [if_pos c19] at H
        exact absurd (c19.symm.trans (eq_of_beq c14b0)) (by decide)
       ·rw [if_neg c19] at H
        have c19b0 : (a0 == 10) = false := beq_eq_false_iff_ne.mpr c19
        have c19b1 : (a0 != 10) = true := bne_iff_ne.mpr c19
        have H' := Aside0.mk H
        clear H
        go_wp2_with (first | ((with_reducible refine gate_callee (f := 46) rfl ?_); refine gM_ 16 Try.func46 (lockgateref01_bit.calls a1 x8_1 t157 _ A5.out) ?_; rintro w' ⟨nd, rfl⟩) | ((with_reducible refine gate_callee (f := 46) rfl ?_); refine gM_ 19 Try.func46 (lockgateref01_bit.calls a2 x8_1 t158 _ A6.out) ?_; rintro w' ⟨nd, rfl⟩))
        go_roundg k1
        case measure => have := HK1.out; omega
        case rel => exact ⟨(x7_1), (wrap64 (x8_1 + 1)), (by first | rfl | (simp; done) | (simp [*]; done)), (by first | rfl | (simp; done) | (simp [*]; done)), H', ⟨by have := HK1.out; omega⟩, by repeat (first | exact Drawn0.refl _ | apply Drawn0.step)⟩
     ·rw [if_neg c14] at H
      have c14b0 : (a0 == 5) = false := beq_eq_false_iff_ne.mpr c14
      have c14b1 : (a0 != 5) = true := bne_iff_ne.mpr c14
      by_cases c20 : a0 = 10
      ·rw [if_pos c20] at H
       have c20b0 : (a0 == 10) = true := beq_iff_eq.mpr c20
       have c20b1 : (a0 != 10) = false := bne_eq_false_iff_eq.mpr c20
       clear c20
       by_cases c21 : (IntKind.u64.wrap (t157 + t158)) = 1
       ·rw [if_pos c21] at H
        have c21b0 : ((IntKind.u64.wrap (t157 + t158)) == 1) = true := beq_iff_eq.mpr c21
        have c21b1 : ((IntKind.u64.wrap (t157 + t158)) != 1) = false := bne_eq_false_iff_eq.mpr c21
        clear c21
        obtain ⟨ji22, hji22⟩ : ∃ j_ : Int, (IntKind.u64.wrap (x8_1)) = j_ := ⟨_, rfl⟩
        replace H : (if 0 ≤ (ji22) then (lockgateref01_bits.l0 k1 a0 a1 a2 (Go.bits .or .u64 x7_1 (shl .u64 1 (ji22))) (wrap64 (x8_1 + 1))) else (none)) = some r := by first | (rw [hji22] at H; exact H) | (simp only [hji22] at H ⊢; exact H)
        (try rw [hji22] at A5)
        (try rw [hji22] at A6)
        by_cases c23 : 0 ≤ (ji22)
        ·rw [if_pos c23] at H
         have c23b0 := eq_true c23
         have c23b1 : decide (0 ≤ (ji22)) = true := decide_eq_true c23
         clear c23
         obtain ⟨ji24, hji24⟩ : ∃ j_ : Int, (shl .u64 1 (ji22)) = j_ := ⟨_, rfl⟩
         replace H : (lockgateref01_bits.l0 k1 a0 a1 a2 (Go.bits .or .u64 x7_1 (ji24)) (wrap64 (x8_1 + 1))) = some r := by first | (rw [hji24] at H; exact H) | (simp only [hji24] at H ⊢; exact H)
         (try rw [hji24] at A5)
         (try rw [hji24] at A6)
         have hji24_ : (IntKind.u64.wrap (1 * 2 ^ min (ji22).toNat 64)) = ji24 := hji24
         have hji24z : (ji22) ≤ 64 → (IntKind.u64.wrap (1 * 2 ^ (ji22).toNat)) = ji24 := shl_small hji24
         have hji24u : (IntKind.u64.wrap (2 ^ min (ji22).toNat 64)) = ji24 := by have h_ := hji24_; rw [Int.one_mul] at h_; exact h_
         have hji24v : (ji22) ≤ 64 → (IntKind.u64.wrap (2 ^ (ji22).toNat)) = ji24 := fun hle_ => by have h_ := hji24z hle_; rw [Int.one_mul] at h_; exact h_
         have H' := Aside0.mk H
         clear H
         go_wp2_with (first | ((with_reducible refine gate_callee (f := 46) rfl ?_); refine gM_ 16 Try.func46 (lockgateref01_bit.calls a1 x8_1 t157 _ A5.out) ?_; rintro w' ⟨nd, rfl⟩) | ((with_reducible refine gate_callee (f := 46) rfl ?_); refine gM_ 19 Try.func46 (lockgateref01_bit.calls a2 x8_1 t158 _ A6.out) ?_; rintro w' ⟨nd, rfl⟩))
         go_roundg k1
         case measure => have := HK1.out; omega
         case rel => exact ⟨(Go.bits .or .u64 x7_1 (ji24)), (wrap64 (x8_1 + 1)), (by first | rfl | (simp; done) | (simp only [← hji24] <;> (first | rfl | simp)) | (simp [*]; done)), (by first | rfl | (simp; done) | (simp [*]; done)), H', ⟨by have := HK1.out; omega⟩, by repeat (first | exact Drawn0.refl _ | apply Drawn0.step)⟩
        ·rw [if_neg c23] at H
         exact absurd H (by simp)
       ·rw [if_neg c21] at H
        have c21b0 : ((IntKind.u64.wrap (t157 + t158)) == 1) = false := beq_eq_false_iff_ne.mpr c21
        have c21b1 : ((IntKind.u64.wrap (t157 + t158)) != 1) = true := bne_iff_ne.mpr c21
        have H' := Aside0.mk H
        clear H
        go_wp2_with (first | ((with_reducible refine gate_callee (f := 46) rfl ?_); refine gM_ 16 Try.func46 (lockgateref01_bit.calls a1 x8_1 t157 _ A5.out) ?_; rintro w' ⟨nd, rfl⟩) | ((with_reducible refine gate_callee (f := 46) rfl ?_); refine gM_ 19 Try.func46 (lockgateref01_bit.calls a2 x8_1 t158 _ A6.out) ?_; rintro w' ⟨nd, rfl⟩))
        go_roundg k1
        case measure => have := HK1.out; omega
        case rel => exact ⟨(x7_1), (wrap64 (x8_1 + 1)), (by first | rfl | (simp; done) | (simp [*]; done)), (by first | rfl | (simp; done) | (simp [*]; done)), H', ⟨by have := HK1.out; omega⟩, by repeat (first | exact Drawn0.refl _ | apply Drawn0.step)⟩
      ·rw [if_neg c20] at H
       have c20b0 : (a0 == 10) = false := beq_eq_false_iff_ne.mpr c20
       have c20b1 : (a0 != 10) = true := bne_iff_ne.mpr c20
       have H' := Aside0.mk H
       clear H
       go_wp2_with (first | ((with_reducible refine gate_callee (f := 46) rfl ?_); refine gM_ 16 Try.func46 (lockgateref01_bit.calls a1 x8_1 t157 _ A5.out) ?_; rintro w' ⟨nd, rfl⟩) | ((with_reducible refine gate_callee (f := 46) rfl ?_); refine gM_ 19 Try.func46 (lockgateref01_bit.calls a2 x8_1 t158 _ A6.out) ?_; rintro w' ⟨nd, rfl⟩))
       go_roundg k1
       case measure => have := HK1.out; omega
       case rel => exact ⟨(x7_1), (wrap64 (x8_1 + 1)), (by first | rfl | (simp; done) | (simp [*]; done)), (by first | rfl | (simp; done) | (simp [*]; done)), H', ⟨by have := HK1.out; omega⟩, by repeat (first | exact Drawn0.refl _ | apply Drawn0.step)⟩
   ·rw [if_neg c4] at H
    have c4b0 : decide (x8_1 < 64) = false := decide_eq_false c4
    clear c4
    obtain rfl := Option.some.inj H
    go_wp2
    go_ret
    exact ⟨by first | rfl | (simp; done) | (simp [*]; done), by repeat (first | exact Drawn0.refl _ | apply Drawn0.step)⟩

end Go.Proofs.Ytnpbhippkcikoaa.PA
