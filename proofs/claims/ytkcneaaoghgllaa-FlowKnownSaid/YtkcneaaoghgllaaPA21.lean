-- PRINTED by print.py (a twelfth state) out of the translation. Not trusted: Lean checks it.
import Derived.Test.YtkcneaaoghgllaaWTab
import Derived.Test.YtkcneaaoghgllaaWGuard
import Derived.Test.YtkcneaaoghgllaaPA0
import Derived.Test.YtkcneaaoghgllaaSq
import Derived.Test.YtkcneaaoghgllaaPA4
import Derived.Test.YtkcneaaoghgllaaPA17
import Derived.Test.YtkcneaaoghgllaaPA18
import Derived.Test.YtkcneaaoghgllaaPA19
namespace Go.Proofs.Ytkcneaaoghgllaa.PA
open Go.RowKit Go.Proofs.YtkcneaaoghgllaaW.PrintWords Go.Proofs.YtkcneaaoghgllaaW.PrintLast Go.Proofs.YtkcneaaoghgllaaW.PrintMore
attribute [local go_sem] max2_int min2_int max_two min_two max_three min_three max_four min_four   -- for this text's walks alone
set_option linter.unusedVariables false
set_option linter.unusedSimpArgs false

/-! ### lockgatelaw06_FlowLands: function 4 -/
def lockgatelaw06_FlowLands.l0 : Nat → List (S42) → List Int → List Int → Int → Option (Bool)
 | 0, _, _, _, _ => none
 | k + 1, x0, x3, x5, x6 => if x6 < (x0.length : Int) then (if 0 ≤ x6 then ((lockgatelaw06_jumps.f ((rd_T42 x0 x6).f0) ((rd_T42 x0 x6).f1) ((rd_T42 x0 x6).f2) ((rd_T42 x0 x6).f3) ((rd_T42 x0 x6).f4)).bind fun t442 => (if x6 < (x3.length : Int) then (if (t442 != (decide ((rd x3 x6) ≥ 0))) = true then (some false) else (if (rd x3 x6) ≥ (x0.length : Int) then (some false) else (if (rd x3 x6) ≥ 0 then (if 0 ≤ (rd x3 x6) then (if (rd x3 x6) < (x5.length : Int) then (if 0 ≤ (wrap64 (x6 + 1)) then (if (wrap64 (x6 + 1)) < (x5.length : Int) then (if (rd x5 (rd x3 x6)) = (wrap64 ((rd x5 (wrap64 (x6 + 1))) + ((rd_T42 x0 x6).f3))) then (lockgatelaw06_FlowLands.l0 k x0 x3 x5 (wrap64 (x6 + 1))) else (some false)) else (none)) else (none)) else (none)) else (none)) else (lockgatelaw06_FlowLands.l0 k x0 x3 x5 (wrap64 (x6 + 1)))))) else (none))) else (none)) else (if 0 ≤ (wrap64 ((x0.length : Int) - 1)) then (if (wrap64 ((x0.length : Int) - 1)) < (x0.length : Int) then (if (Go.bits .and .i64 ((rd_T42 x0 (wrap64 ((x0.length : Int) - 1))).f0) 247) = 149 then ((lockgatelaw06_works.f k).bind fun t452 => (some t452)) else (if (Go.bits .and .i64 ((rd_T42 x0 (wrap64 ((x0.length : Int) - 1))).f0) 247) = 5 then ((lockgatelaw06_works.f k).bind fun t453 => (some t453)) else (some false))) else (none)) else (none))
def lockgatelaw06_FlowLands.f (k : Nat) (l0 : List (S42)) : Option (Bool) := (lockgatelaw06_right.f k l0).bind fun t431 => (if t431 = true then ((flow_Targets.f k l0).bind fun bt433 => ((lockgatelaw06_slots.f k l0).bind fun t437 => (if bt433.2 = 0 then (if (bt433.1.length : Int) = (l0.length : Int) then (lockgatelaw06_FlowLands.l0 k l0 bt433.1 t437 0) else (some false)) else (if ((bt433.2 == 2) == ((l0.length : Int) == 0)) = true then (if ((bt433.2 == 9) == (decide ((l0.length : Int) > 256))) = true then (if (bt433.1.length : Int) = 0 then ((lockgatelaw06_works.f k).bind fun t440 => (some t440)) else (some false)) else (some false)) else (some false))))) else ((lockgatelaw06_works.f k).bind fun t432 => (some t432)))
theorem lockgatelaw06_FlowLands.mono_l : ∀ k, (∀ y0 y1 y2 y3, LeO (lockgatelaw06_FlowLands.l0 k y0 y1 y2 y3) (lockgatelaw06_FlowLands.l0 (k + 1) y0 y1 y2 y3))
 | 0 => fun _ _ _ _ r h => by simp [lockgatelaw06_FlowLands.l0] at h
 | k + 1 => by
  have ih0 := lockgatelaw06_FlowLands.mono_l k
  ·intro y0 y1 y2 y3
   unfold lockgatelaw06_FlowLands.l0
   repeat' first
   | (with_reducible exact ih0 _ _ _ _)
   | (with_reducible exact flow_Targets.mono _ _)
   | (with_reducible exact lockgatelaw06_right.mono _ _)
   | (with_reducible exact lockgatelaw06_slots.mono _ _)
   | (with_reducible exact lockgatelaw06_works.mono _)
   | (with_reducible exact LeO.refl _)
   | (with_reducible exact LeO.none _)
   | (with_reducible refine LeO.ite ?_ ?_)
   | (with_reducible refine LeO.bind ?_ (fun _ => ?_))
   | exact ih0 _ _ _ _
   | exact flow_Targets.mono _ _
   | exact lockgatelaw06_right.mono _ _
   | exact lockgatelaw06_slots.mono _ _
   | exact lockgatelaw06_works.mono _
   | exact LeO.none _
   | refine LeO.ite ?_ ?_
   | refine LeO.bind ?_ (fun _ => ?_)
theorem lockgatelaw06_FlowLands.mono : ∀ a0 k, LeO (lockgatelaw06_FlowLands.f k a0) (lockgatelaw06_FlowLands.f (k + 1) a0) := by
 intro a0 k
 have ih0 := lockgatelaw06_FlowLands.mono_l k
 unfold lockgatelaw06_FlowLands.f
 repeat' first
  | (with_reducible exact ih0 _ _ _ _)
  | (with_reducible exact flow_Targets.mono _ _)
  | (with_reducible exact lockgatelaw06_right.mono _ _)
  | (with_reducible exact lockgatelaw06_slots.mono _ _)
  | (with_reducible exact lockgatelaw06_works.mono _)
  | (with_reducible exact LeO.refl _)
  | (with_reducible exact LeO.none _)
  | (with_reducible refine LeO.ite ?_ ?_)
  | (with_reducible refine LeO.bind ?_ (fun _ => ?_))
  | exact ih0 _ _ _ _
  | exact flow_Targets.mono _ _
  | exact lockgatelaw06_right.mono _ _
  | exact lockgatelaw06_slots.mono _ _
  | exact lockgatelaw06_works.mono _
  | exact LeO.none _
  | refine LeO.ite ?_ ?_
  | refine LeO.bind ?_ (fun _ => ?_)
def lockgatelaw06_FlowLands.T12 : Bool × List (List Nat × List Nat) := (true, [([], []), ([], []), ([0, 1], [0, 1]), ([2], [2]), ([3], [3]), ([], []), ([], []), ([5, 6], [5, 6]), ([7], [7]), ([8], [8]), ([4, 9], [4, 9]), ([10, 4], [10]), ([11], [11]), ([11], [11]), ([12, 13, 11], [11, 12, 13]), ([14, 11], [11, 14]), ([11], [11]), ([16, 11], [11, 16]), ([15, 17, 11], [11, 15, 17]), ([11, 18], [11, 18]), ([19, 11], [19]), ([20], [20]), ([20], [20]), ([21, 22, 20], [20, 21, 22]), ([23, 20], [20, 23]), ([24, 20], [20, 24]), ([25, 20, 20], [20, 25]), ([26], [26]), ([26], [26]), ([26], [26]), ([28, 29, 26], [26, 28, 29]), ([30, 26], [26, 30]), ([27, 31, 26], [26, 27, 31]), ([32, 26], [26, 32]), ([26], [26]), ([26], [26]), ([35, 26], [26, 35]), ([34, 36, 26], [26, 34, 36]), ([37, 26], [26, 37]), ([26], [26]), ([26], [26]), ([39, 40, 26], [26, 39, 40]), ([41, 26], [26, 41]), ([42, 26], [26, 42]), ([38, 43, 26], [26, 38, 43]), ([33, 44, 26], [26, 33, 44]), ([26, 45, 20], [20, 26, 45]), ([20, 46], [20, 46])])
def lockgatelaw06_FlowLands.B12 : List Nat := [0, 0, 3, 7, 15, 0, 0, 96, 224, 480, 1023, 2047, 4095, 4095, 16383, 32767, 4095, 69631, 262143, 524287, 1048575, 2097151, 2097151, 8388607, 16777215, 33554431, 67108863, 134217727, 134217727, 134217727, 939524095, 2013265919, 4294967295, 8589934591, 134217727, 134217727, 34493956095, 120393302015, 257832255487, 134217727, 134217727, 1649401659391, 3848424914943, 8246471426047, 17575140392959, 35184372088831, 70368744177663, 140737488355327]
theorem lockgatelaw06_FlowLands.tab12 : rtab .any (opsOf Try.f4 12) = lockgatelaw06_FlowLands.T12 := by kernel_rfl
theorem lockgatelaw06_FlowLands.bits12 : waitsOk lockgatelaw06_FlowLands.T12.2 lockgatelaw06_FlowLands.B12 = true := by kernel_rfl
set_option maxHeartbeats 8000000 in
set_option maxRecDepth 100000 in
theorem lockgatelaw06_FlowLands.calls (k : Nat) (A0 : Option Addr) (c0 : Nat) (l0 : List (S42)) (r : Bool) (w : World) (hr0 : Kd.C k42 w A0 l0.length l0) (hc0 : l0.length ≤ c0) (HRT : Aside0 (r = true)) (h : lockgatelaw06_FlowLands.f k l0 = some r) :
 Calls Try.prog 4 #[.slice A0 l0.length c0] w fun e w' => e = .returned (.bool r) ∧ Below w.heap.size w w' := by
 have hu42 := Try.underlying42
 have HR0 := Aside0.mk hr0
 have HC0 := Aside0.mk hc0
 clear hr0 hc0
 have HB := Aside0.mk (Below.refl w.heap.size w)
 have H : ((lockgatelaw06_right.f k l0).bind fun t431 => (if t431 = true then ((flow_Targets.f k l0).bind fun bt433 => ((lockgatelaw06_slots.f k l0).bind fun t437 => (if bt433.2 = 0 then (if (bt433.1.length : Int) = (l0.length : Int) then (lockgatelaw06_FlowLands.l0 k l0 bt433.1 t437 0) else (some false)) else (if ((bt433.2 == 2) == ((l0.length : Int) == 0)) = true then (if ((bt433.2 == 9) == (decide ((l0.length : Int) > 256))) = true then (if (bt433.1.length : Int) = 0 then ((lockgatelaw06_works.f k).bind fun t440 => (some t440)) else (some false)) else (some false)) else (some false))))) else ((lockgatelaw06_works.f k).bind fun t432 => (some t432)))) = some r := h
 clear h
 replace H := Option.bind_eq_some_iff.mp H
 obtain ⟨t431, A20, H⟩ := H
 replace H : (if t431 = true then ((flow_Targets.f k l0).bind fun bt433 => ((lockgatelaw06_slots.f k l0).bind fun t437 => (if bt433.2 = 0 then (if (bt433.1.length : Int) = (l0.length : Int) then (lockgatelaw06_FlowLands.l0 k l0 bt433.1 t437 0) else (some false)) else (if ((bt433.2 == 2) == ((l0.length : Int) == 0)) = true then (if ((bt433.2 == 9) == (decide ((l0.length : Int) > 256))) = true then (if (bt433.1.length : Int) = 0 then ((lockgatelaw06_works.f k).bind fun t440 => (some t440)) else (some false)) else (some false)) else (some false))))) else ((lockgatelaw06_works.f k).bind fun t432 => (some t432))) = some r := H
 have A2 := Aside0.mk A20
 clear A20
 by_cases c3 : t431 = true
 ·subst c3
  have H1 : ((flow_Targets.f k l0).bind fun bt433 => ((lockgatelaw06_slots.f k l0).bind fun t437 => (if bt433.2 = 0 then (if (bt433.1.length : Int) = (l0.length : Int) then (lockgatelaw06_FlowLands.l0 k l0 bt433.1 t437 0) else (some false)) else (if ((bt433.2 == 2) == ((l0.length : Int) == 0)) = true then (if ((bt433.2 == 9) == (decide ((l0.length : Int) > 256))) = true then (if (bt433.1.length : Int) = 0 then ((lockgatelaw06_works.f k).bind fun t440 => (some t440)) else (some false)) else (some false)) else (some false))))) = some r := by rw [if_pos rfl] at H; exact H
  clear H
  have H := H1
  clear H1
  replace H := Option.bind_eq_some_iff.mp H
  obtain ⟨⟨t433, t434⟩, A40, H⟩ := H
  replace H : ((lockgatelaw06_slots.f k l0).bind fun t437 => (if t434 = 0 then (if (t433.length : Int) = (l0.length : Int) then (lockgatelaw06_FlowLands.l0 k l0 t433 t437 0) else (some false)) else (if ((t434 == 2) == ((l0.length : Int) == 0)) = true then (if ((t434 == 9) == (decide ((l0.length : Int) > 256))) = true then (if (t433.length : Int) = 0 then ((lockgatelaw06_works.f k).bind fun t440 => (some t440)) else (some false)) else (some false)) else (some false)))) = some r := H
  have A4 := Aside0.mk A40
  clear A40
  replace H := Option.bind_eq_some_iff.mp H
  obtain ⟨t437, A50, H⟩ := H
  replace H : (if t434 = 0 then (if (t433.length : Int) = (l0.length : Int) then (lockgatelaw06_FlowLands.l0 k l0 t433 t437 0) else (some false)) else (if ((t434 == 2) == ((l0.length : Int) == 0)) = true then (if ((t434 == 9) == (decide ((l0.length : Int) > 256))) = true then (if (t433.length : Int) = 0 then ((lockgatelaw06_works.f k).bind fun t440 => (some t440)) else (some false)) else (some false)) else (some false))) = some r := H
  have A5 := Aside0.mk A50
  clear A50
  by_cases c6 : t434 = 0
  ·rw [if_pos c6] at H
   have c6b0 : (t434 == 0) = true := beq_iff_eq.mpr c6
   have c6b1 : (t434 != 0) = false := bne_eq_false_iff_eq.mpr c6
   clear c6
   by_cases c7 : (t433.length : Int) = (l0.length : Int)
   ·rw [if_pos c7] at H
    have c7b0 : ((t433.length : Int) == (l0.length : Int)) = true := beq_iff_eq.mpr c7
    have c7b1 : ((t433.length : Int) != (l0.length : Int)) = false := bne_eq_false_iff_eq.mpr c7
    have c7b2 : (t433.length == l0.length) = true := by first | simpa using c7 | (simp at c7 ⊢; omega)
    clear c7
    have H' := Aside0.mk H
    clear H
    go_enter Try.func4, Try.ntmps4
    go_wp2_with (first | ((with_reducible refine gate_callee (f := 8) rfl ?_); refine goesL_ (some 9) rfl rfl Try.func8 (by kernel_rfl) rfl #[.slice A0 l0.length c0] rfl mp_ ?_; (with_reducible refine (lockgatelaw06_right.calls k _ _ l0 true _ ?side1 ?side2 A2.out).mono ?_); (case side1 => repeat (first | exact HR0.out | (with_reducible refine Kd.C_alloc ?_ _) | (with_reducible refine Kd.C_drewN ?_ _) | (with_reducible refine Kd.C_drew ?_))); (case side2 => exact HC0.out); rintro e w' ⟨rfl, ⟨nd, rfl⟩⟩; refine ⟨_, rfl, ?_⟩) | ((with_reducible refine gate_callee (f := 11) rfl ?_); refine goesL_ (some 14) rfl rfl Try.func11 (by kernel_rfl) rfl #[.slice A0 l0.length c0] rfl mp_ ?_; (with_reducible refine (flow_Targets.calls k _ _ l0 t433 t434 _ ?side1 ?side2 A4.out).mono ?_); (case side1 => repeat (first | exact HR0.out | (with_reducible refine Kd.C_alloc ?_ _) | (with_reducible refine Kd.C_drewN ?_ _) | (with_reducible refine Kd.C_drew ?_))); (case side2 => exact HC0.out); rintro e w8 ⟨v435, rfl, ho0, hb⟩; refine ⟨_, rfl, ?_⟩; have HO436 := Aside0.mk (Kd.R_lower ho0 (below_size bz_)); replace HB := bl_ hb; (try clear hb); (try clear hb2); (try clear hk); (try clear hi); (try clear ho0)) | ((with_reducible refine gate_callee (f := 25) rfl ?_); refine goesL_ (some 18) rfl rfl Try.func25 (by kernel_rfl) rfl #[.slice A0 l0.length c0] rfl mp_ ?_; (with_reducible refine (lockgatelaw06_slots.calls k _ _ l0 t437 _ ?side1 ?side2 A5.out).mono ?_); (case side1 => repeat (first | exact (Kd.C_below HR0.out HB.out) | (with_reducible refine Kd.C_alloc ?_ _) | (with_reducible refine Kd.C_drewN ?_ _) | (with_reducible refine Kd.C_drew ?_))); (case side2 => exact HC0.out); rintro e w9 ⟨v438, rfl, ho0, hb⟩; refine ⟨_, rfl, ?_⟩; have n0_ := Aside0.mk (Kd.R_elder' (by (with_reducible repeat (first | apply Kd.R_alloc | apply Kd.R_drewN | apply Kd.R_drew)); exact HO436.out) (Kd.R_base ho0) hb); have n1_ := Aside0.mk (Kd.R_lower (Kd.R_new' ho0 (Kd.R_lt (by (with_reducible repeat (first | apply Kd.R_alloc | apply Kd.R_drewN | apply Kd.R_drew)); exact HO436.out))) (below_size bz_)); have n2_ := bl_ hb; clear HO436; clear HB; have HO436 := n0_; have HO439 := n1_; have HB := n2_; clear n0_ n1_ n2_; (try clear hb); (try clear hb2); (try clear hk); (try clear hi); (try clear ho0); obtain ⟨Ao10, co10, eo10⟩ := Kd.R_slice HO436.out; subst eo10))
    go_loopg [6] k (fun kq v6 w' => ∃ (x6_1 : Int), v6 = .int .i64 x6_1 ∧ Aside0 (lockgatelaw06_FlowLands.l0 kq l0 t433 t437 x6_1 = some r) ∧ Aside0 (kq ≤ k) ∧ Aside0 (Kd.R (Kd.int .i64) 3 w' w.heap.size (fun k_ => some k_ ≠ (v438 : Value).ownBlock) (.slice Ao10 t433.length co10) t433) ∧ Aside0 (Kd.R (Kd.int .i64) 3 w' w.heap.size (fun k_ => some k_ ≠ ((.slice Ao10 t433.length co10) : Value).ownBlock) v438 t437) ∧ Aside0 (Below w.heap.size w w'))
    case atStart => exact ⟨(0), (by first | rfl | (simp; done) | (simp [*]; done)), H', ⟨Nat.le_refl _⟩, ⟨by (with_reducible repeat (first | apply Kd.R_alloc | apply Kd.R_drewN | apply Kd.R_drew)); exact Kd.R_mono HO436.out (fun _ hk => hk.2)⟩, ⟨by (with_reducible repeat (first | apply Kd.R_alloc | apply Kd.R_drewN | apply Kd.R_drew)); exact Kd.R_mono HO439.out (fun _ hk => hk.2)⟩, ⟨bz_⟩⟩
    case round =>
     clear H'
     try clear c1
     try clear c2
     try clear p2
     try clear c3
     try clear c4
     try clear c6
     try clear c6b0
     try clear c6b1
     try clear c7
     try clear c7b0
     try clear c7b1
     try clear c7b2
     try clear c8
     obtain ⟨x6_1, rfl, HA, HK1, HO_3, HO_5, HB⟩ := hrel
     cases gk with
     | zero => exact absurd HA.out (by simp [lockgatelaw06_FlowLands.l0])
     | succ k1 =>
      have H := HA.out
      clear HA
      simp only [lockgatelaw06_FlowLands.l0] at H
      by_cases c11 : x6_1 < (l0.length : Int)
      ·rw [if_pos c11] at H
       have c11b0 : decide (x6_1 < (l0.length : Int)) = true := decide_eq_true c11
       clear c11
       by_cases c12 : 0 ≤ x6_1
       ·rw [if_pos c12] at H
        have c12b0 : decide (0 ≤ x6_1) = true := decide_eq_true c12
        clear c12
        replace H := Option.bind_eq_some_iff.mp H
        obtain ⟨t442, A130, H⟩ := H
        replace H : (if x6_1 < (t433.length : Int) then (if (t442 != (decide ((rd t433 x6_1) ≥ 0))) = true then (some false) else (if (rd t433 x6_1) ≥ (l0.length : Int) then (some false) else (if (rd t433 x6_1) ≥ 0 then (if 0 ≤ (rd t433 x6_1) then (if (rd t433 x6_1) < (t437.length : Int) then (if 0 ≤ (wrap64 (x6_1 + 1)) then (if (wrap64 (x6_1 + 1)) < (t437.length : Int) then (if (rd t437 (rd t433 x6_1)) = (wrap64 ((rd t437 (wrap64 (x6_1 + 1))) + ((rd_T42 l0 x6_1).f3))) then (lockgatelaw06_FlowLands.l0 k1 l0 t433 t437 (wrap64 (x6_1 + 1))) else (some false)) else (none)) else (none)) else (none)) else (none)) else (lockgatelaw06_FlowLands.l0 k1 l0 t433 t437 (wrap64 (x6_1 + 1)))))) else (none)) = some r := H
        have A13 := Aside0.mk A130
        clear A130
        by_cases c14 : x6_1 < (t433.length : Int)
        ·rw [if_pos c14] at H
         have c14b0 : decide (x6_1 < (t433.length : Int)) = true := decide_eq_true c14
         clear c14
         by_cases c15 : (t442 != (decide ((rd t433 x6_1) ≥ 0))) = true
         ·rw [if_pos c15] at H
          have c15b0 : (t442 != (decide ((rd t433 x6_1) ≥ 0))) = true := c15
          (try (have c15b1 : decide (t442 = (decide ((rd t433 x6_1) ≥ 0))) = false := by simpa using c15))
          (try (have c15b2 : (t442 == (decide ((rd t433 x6_1) ≥ 0))) = false := by simpa using c15))
          (try (have c15b3 : ¬ (t442 = (decide ((rd t433 x6_1) ≥ 0))) := by simpa using c15))
          clear c15
          exact absurd ((Option.some.inj H).trans HRT.out) (by decide)
         ·rw [if_neg c15] at H
          have c15b0 : (t442 != (decide ((rd t433 x6_1) ≥ 0))) = false := by simpa using c15
          (try (have c15b1 : decide (t442 = (decide ((rd t433 x6_1) ≥ 0))) = true := by simpa using c15))
          (try (have c15b2 : (t442 == (decide ((rd t433 x6_1) ≥ 0))) = true := by simpa using c15))
          clear c15
          by_cases c16 : (rd t433 x6_1) ≥ (l0.length : Int)
          ·rw [if_pos c16] at H
           have c16b0 : decide ((l0.length : Int) ≤ (rd t433 x6_1)) = true := decide_eq_true c16
           clear c16
           exact absurd ((Option.some.inj H).trans HRT.out) (by decide)
          ·rw [if_neg c16] at H
           have c16b0 : decide ((l0.length : Int) ≤ (rd t433 x6_1)) = false := decide_eq_false c16
           clear c16
           by_cases c17 : (rd t433 x6_1) ≥ 0
           ·rw [if_pos c17] at H
            have c17b0 : decide (0 ≤ (rd t433 x6_1)) = true := decide_eq_true c17
            have ht_ : t442 = true := by rw [bne_eq_false_iff_eq] at c15b0; rw [c15b0]; exact decide_eq_true c17
            subst ht_
            clear c17
            by_cases c18 : 0 ≤ (rd t433 x6_1)
            ·rw [if_pos c18] at H
             have c18b0 : decide (0 ≤ (rd t433 x6_1)) = true := decide_eq_true c18
             clear c18
             by_cases c19 : (rd t433 x6_1) < (t437.length : Int)
             ·rw [if_pos c19] at H
              have c19b0 : decide ((rd t433 x6_1) < (t437.length : Int)) = true := decide_eq_true c19
              clear c19
              obtain ⟨ji20, hji20⟩ : ∃ j_ : Int, (wrap64 (x6_1 + 1)) = j_ := ⟨_, rfl⟩
              replace H : (if 0 ≤ (ji20) then (if (ji20) < (t437.length : Int) then (if (rd t437 (rd t433 x6_1)) = (wrap64 ((rd t437 (ji20)) + ((rd_T42 l0 x6_1).f3))) then (lockgatelaw06_FlowLands.l0 k1 l0 t433 t437 ji20) else (some false)) else (none)) else (none)) = some r := by first | (rw [hji20] at H; exact H) | (simp only [hji20] at H ⊢; exact H)
              (try rw [hji20] at A13)
              have hji20w : (IntKind.i64.wrap (x6_1 + 1)) = ji20 := (i64_w _).trans hji20
              by_cases c21 : 0 ≤ (ji20)
              ·rw [if_pos c21] at H
               have c21b0 : decide (0 ≤ (ji20)) = true := decide_eq_true c21
               clear c21
               by_cases c22 : (ji20) < (t437.length : Int)
               ·rw [if_pos c22] at H
                have c22b0 : decide ((ji20) < (t437.length : Int)) = true := decide_eq_true c22
                clear c22
                by_cases c23 : (rd t437 (rd t433 x6_1)) = (wrap64 ((rd t437 (ji20)) + ((rd_T42 l0 x6_1).f3)))
                ·rw [if_pos c23] at H
                 have c23b0 : ((rd t437 (rd t433 x6_1)) == (wrap64 ((rd t437 (ji20)) + ((rd_T42 l0 x6_1).f3)))) = true := beq_iff_eq.mpr c23
                 have c23b1 : ((rd t437 (rd t433 x6_1)) != (wrap64 ((rd t437 (ji20)) + ((rd_T42 l0 x6_1).f3)))) = false := bne_eq_false_iff_eq.mpr c23
                 clear c23
                 have H' := Aside0.mk H
                 clear H
                 try go_wp2
                 replace HO_3 := Aside0.mk (Kd.R_drew HO_3.out)
                 replace HO_5 := Aside0.mk (Kd.R_drew HO_5.out)
                 replace HB := Aside0.mk (below_drew1 HB.out)
                 have p441 : 0 ≤ (x6_1 : Int) := of_decide_eq_true (by first | (with_reducible assumption) | assumption)
                 have q441 : x6_1 < (l0.length : Int) := of_decide_eq_true (by first | (with_reducible assumption) | assumption)
                 obtain ⟨ad441, e441, hx441_0, hx441_1, hx441_2, hx441_3, hx441_4⟩ := at_T42 HR0.out x6_1 p441 q441
                 have hw441_4 := hx441_4
                 have hw441_3 := hx441_3
                 have hw441_2 := hx441_2
                 have hw441_1 := hx441_1
                 have hw441_0 := hx441_0
                 cases e441
                 replace hx441_0 := (HB.out.cell (World.block_lt_of_cell? w _ hx441_0)).trans hx441_0
                 replace hx441_1 := (HB.out.cell (World.block_lt_of_cell? w _ hx441_1)).trans hx441_1
                 replace hx441_2 := (HB.out.cell (World.block_lt_of_cell? w _ hx441_2)).trans hx441_2
                 replace hx441_3 := (HB.out.cell (World.block_lt_of_cell? w _ hx441_3)).trans hx441_3
                 replace hx441_4 := (HB.out.cell (World.block_lt_of_cell? w _ hx441_4)).trans hx441_4
                 replace p441 := eq_true p441
                 replace q441 := eq_true q441
                 have p443 : 0 ≤ (x6_1 : Int) := of_decide_eq_true (by first | (with_reducible assumption) | assumption)
                 have q443 : x6_1 < (t433.length : Int) := of_decide_eq_true (by first | (with_reducible assumption) | assumption)
                 obtain ⟨ad443, e443, hx443_0⟩ := Kd.at_int (Kd.R_reads' HO_3.out).2.2 x6_1 p443 q443
                 cases e443
                 replace p443 := eq_true p443
                 replace q443 := eq_true q443
                 have p444 : 0 ≤ (x6_1 : Int) := of_decide_eq_true (by first | (with_reducible assumption) | assumption)
                 have q444 : x6_1 < (t433.length : Int) := of_decide_eq_true (by first | (with_reducible assumption) | assumption)
                 obtain ⟨ad444, e444, hx444_0⟩ := Kd.at_int (Kd.R_reads' HO_3.out).2.2 x6_1 p444 q444
                 obtain rfl : ad443 = ad444 := (by injection e444)
                 replace p444 := eq_true p444
                 replace q444 := eq_true q444
                 have p445 : 0 ≤ (x6_1 : Int) := of_decide_eq_true (by first | (with_reducible assumption) | assumption)
                 have q445 : x6_1 < (t433.length : Int) := of_decide_eq_true (by first | (with_reducible assumption) | assumption)
                 obtain ⟨ad445, e445, hx445_0⟩ := Kd.at_int (Kd.R_reads' HO_3.out).2.2 x6_1 p445 q445
                 obtain rfl : ad443 = ad445 := (by injection e445)
                 replace p445 := eq_true p445
                 replace q445 := eq_true q445
                 have p446 : 0 ≤ (x6_1 : Int) := of_decide_eq_true (by first | (with_reducible assumption) | assumption)
                 have q446 : x6_1 < (t433.length : Int) := of_decide_eq_true (by first | (with_reducible assumption) | assumption)
                 obtain ⟨ad446, e446, hx446_0⟩ := Kd.at_int (Kd.R_reads' HO_3.out).2.2 x6_1 p446 q446
                 obtain rfl : ad443 = ad446 := (by injection e446)
                 replace p446 := eq_true p446
                 replace q446 := eq_true q446
                 have p447 : 0 ≤ ((rd t433 x6_1) : Int) := of_decide_eq_true (by first | (with_reducible assumption) | assumption)
                 have q447 : (rd t433 x6_1) < (t437.length : Int) := of_decide_eq_true (by first | (with_reducible assumption) | assumption)
                 obtain ⟨Ao_5, co_5, eo_5⟩ := Kd.R_slice HO_5.out
                 subst eo_5
                 obtain ⟨ad447, e447, hx447_0⟩ := Kd.at_int (Kd.R_reads' HO_5.out).2.2 (rd t433 x6_1) p447 q447
                 cases e447
                 replace p447 := eq_true p447
                 replace q447 := eq_true q447
                 have p448 : 0 ≤ ((ji20) : Int) := of_decide_eq_true (by first | (with_reducible assumption) | assumption)
                 have q448 : (ji20) < (t437.length : Int) := of_decide_eq_true (by first | (with_reducible assumption) | assumption)
                 obtain ⟨ad448, e448, hx448_0⟩ := Kd.at_int (Kd.R_reads' HO_5.out).2.2 (ji20) p448 q448
                 obtain rfl : ad447 = ad448 := (by injection e448)
                 replace p448 := eq_true p448
                 replace q448 := eq_true q448
                 have p449 : 0 ≤ (x6_1 : Int) := of_decide_eq_true (by first | (with_reducible assumption) | assumption)
                 have q449 : x6_1 < (l0.length : Int) := of_decide_eq_true (by first | (with_reducible assumption) | assumption)
                 obtain ⟨ad449, e449, hx449_0, hx449_1, hx449_2, hx449_3, hx449_4⟩ := at_T42 HR0.out x6_1 p449 q449
                 have hw449_4 := hx449_4
                 have hw449_3 := hx449_3
                 have hw449_2 := hx449_2
                 have hw449_1 := hx449_1
                 have hw449_0 := hx449_0
                 obtain rfl : ad441 = ad449 := (by injection e449)
                 replace hx449_0 := (HB.out.cell (World.block_lt_of_cell? w _ hx449_0)).trans hx449_0
                 replace hx449_1 := (HB.out.cell (World.block_lt_of_cell? w _ hx449_1)).trans hx449_1
                 replace hx449_2 := (HB.out.cell (World.block_lt_of_cell? w _ hx449_2)).trans hx449_2
                 replace hx449_3 := (HB.out.cell (World.block_lt_of_cell? w _ hx449_3)).trans hx449_3
                 replace hx449_4 := (HB.out.cell (World.block_lt_of_cell? w _ hx449_4)).trans hx449_4
                 replace p449 := eq_true p449
                 replace q449 := eq_true q449
                 refine start_ (n := 48) (S := fun w' => w'.cell? (ad441.add ((x6_1).toNat * 5)) = some (.int .i64 ((rd_T42 l0 x6_1).f0)) ∧ w'.cell? ⟨(ad441.add ((x6_1).toNat * 5)).block, (ad441.add ((x6_1).toNat * 5)).off + 1, none⟩ = some (.int .i64 ((rd_T42 l0 x6_1).f1)) ∧ w'.cell? ⟨(ad441.add ((x6_1).toNat * 5)).block, (ad441.add ((x6_1).toNat * 5)).off + 2, none⟩ = some (.int .i64 ((rd_T42 l0 x6_1).f2)) ∧ w'.cell? ⟨(ad441.add ((x6_1).toNat * 5)).block, (ad441.add ((x6_1).toNat * 5)).off + 3, none⟩ = some (.int .i64 ((rd_T42 l0 x6_1).f3)) ∧ w'.cell? ⟨(ad441.add ((x6_1).toNat * 5)).block, (ad441.add ((x6_1).toNat * 5)).off + 4, none⟩ = some (.int .i64 ((rd_T42 l0 x6_1).f4)) ∧ w'.cell? (ad443.add (x6_1).toNat) = some (.int .i64 (rd t433 x6_1)) ∧ w'.cell? (ad443.add (x6_1).toNat) = some (.int .i64 (rd t433 x6_1)) ∧ w'.cell? (ad443.add (x6_1).toNat) = some (.int .i64 (rd t433 x6_1)) ∧ w'.cell? (ad443.add (x6_1).toNat) = some (.int .i64 (rd t433 x6_1)) ∧ w'.cell? (ad447.add ((rd t433 x6_1)).toNat) = some (.int .i64 (rd t437 (rd t433 x6_1))) ∧ w'.cell? (ad447.add ((ji20)).toNat) = some (.int .i64 (rd t437 (ji20))) ∧ w'.cell? (ad441.add ((x6_1).toNat * 5)) = some (.int .i64 ((rd_T42 l0 x6_1).f0)) ∧ w'.cell? ⟨(ad441.add ((x6_1).toNat * 5)).block, (ad441.add ((x6_1).toNat * 5)).off + 1, none⟩ = some (.int .i64 ((rd_T42 l0 x6_1).f1)) ∧ w'.cell? ⟨(ad441.add ((x6_1).toNat * 5)).block, (ad441.add ((x6_1).toNat * 5)).off + 2, none⟩ = some (.int .i64 ((rd_T42 l0 x6_1).f2)) ∧ w'.cell? ⟨(ad441.add ((x6_1).toNat * 5)).block, (ad441.add ((x6_1).toNat * 5)).off + 3, none⟩ = some (.int .i64 ((rd_T42 l0 x6_1).f3)) ∧ w'.cell? ⟨(ad441.add ((x6_1).toNat * 5)).block, (ad441.add ((x6_1).toNat * 5)).off + 4, none⟩ = some (.int .i64 ((rd_T42 l0 x6_1).f4))) (ds := []) #[n_,n_,n_,n_,n_,n_,n_,n_,n_,n_,n_,n_,n_,n_,n_,n_,n_,n_,n_,n_,n_,n_,n_,n_,n_,n_,n_,n_,n_,n_,n_,n_,n_,n_,n_,n_,n_,n_,n_,n_,n_,n_,n_,n_,n_,n_,n_,n_] (by kernel_rfl) rfl rfl ⟨((HB.out.cell (World.block_lt_of_cell? w _ hw441_0)).trans hw441_0), ((HB.out.cell (World.block_lt_of_cell? w _ hw441_1)).trans hw441_1), ((HB.out.cell (World.block_lt_of_cell? w _ hw441_2)).trans hw441_2), ((HB.out.cell (World.block_lt_of_cell? w _ hw441_3)).trans hw441_3), ((HB.out.cell (World.block_lt_of_cell? w _ hw441_4)).trans hw441_4), hx443_0, hx444_0, hx445_0, hx446_0, hx447_0, hx448_0, ((HB.out.cell (World.block_lt_of_cell? w _ hw449_0)).trans hw449_0), ((HB.out.cell (World.block_lt_of_cell? w _ hw449_1)).trans hw449_1), ((HB.out.cell (World.block_lt_of_cell? w _ hw449_2)).trans hw449_2), ((HB.out.cell (World.block_lt_of_cell? w _ hw449_3)).trans hw449_3), ((HB.out.cell (World.block_lt_of_cell? w _ hw449_4)).trans hw449_4)⟩ (fun hHeld => ?_); refine with_tabW lockgatelaw06_FlowLands.tab12 lockgatelaw06_FlowLands.bits12 (fun HT_ HW_ => ?_)
                 generalize wr.drew = w24 at HO_3 HO_5 HB hx441_0 hx441_1 hx441_2 hx441_3 hx441_4 hx443_0 hx444_0 hx445_0 hx446_0 hx447_0 hx448_0 hx449_0 hx449_1 hx449_2 hx449_3 hx449_4 hHeld ⊢
                 refine pq_ 0 54 #[y_,n_,n_,n_,n_,n_,n_,n_,n_,n_,n_,n_,n_,n_,n_,n_,n_,n_,n_,n_,n_,n_,n_,n_,n_,n_,n_,n_,n_,n_,n_,n_,n_,n_,n_,n_,n_,n_,n_,n_,n_,n_,n_,n_,n_,n_,n_,n_] ?_
                 refine pq_ 1 55 #[y_,y_,n_,n_,n_,n_,n_,n_,n_,n_,n_,n_,n_,n_,n_,n_,n_,n_,n_,n_,n_,n_,n_,n_,n_,n_,n_,n_,n_,n_,n_,n_,n_,n_,n_,n_,n_,n_,n_,n_,n_,n_,n_,n_,n_,n_,n_,n_] ?_
                 refine pq_ 2 56 #[y_,y_,y_,n_,n_,n_,n_,n_,n_,n_,n_,n_,n_,n_,n_,n_,n_,n_,n_,n_,n_,n_,n_,n_,n_,n_,n_,n_,n_,n_,n_,n_,n_,n_,n_,n_,n_,n_,n_,n_,n_,n_,n_,n_,n_,n_,n_,n_] ?_
                 refine pq_ 5 59 #[y_,y_,y_,n_,n_,y_,n_,n_,n_,n_,n_,n_,n_,n_,n_,n_,n_,n_,n_,n_,n_,n_,n_,n_,n_,n_,n_,n_,n_,n_,n_,n_,n_,n_,n_,n_,n_,n_,n_,n_,n_,n_,n_,n_,n_,n_,n_,n_] ?_
                 refine pq_ 6 60 #[y_,y_,y_,n_,n_,y_,y_,n_,n_,n_,n_,n_,n_,n_,n_,n_,n_,n_,n_,n_,n_,n_,n_,n_,n_,n_,n_,n_,n_,n_,n_,n_,n_,n_,n_,n_,n_,n_,n_,n_,n_,n_,n_,n_,n_,n_,n_,n_] ?_
                 refine pq_ 7 61 #[y_,y_,y_,n_,n_,y_,y_,y_,n_,n_,n_,n_,n_,n_,n_,n_,n_,n_,n_,n_,n_,n_,n_,n_,n_,n_,n_,n_,n_,n_,n_,n_,n_,n_,n_,n_,n_,n_,n_,n_,n_,n_,n_,n_,n_,n_,n_,n_] ?_
                 refine tq2_ 3 57 #[y_,y_,y_,y_,n_,y_,y_,y_,n_,n_,n_,n_,n_,n_,n_,n_,n_,n_,n_,n_,n_,n_,n_,n_,n_,n_,n_,n_,n_,n_,n_,n_,n_,n_,n_,n_,n_,n_,n_,n_,n_,n_,n_,n_,n_,n_,n_,n_] hHeld ?_
                 refine tq2_ 8 62 #[y_,y_,y_,y_,n_,y_,y_,y_,y_,n_,n_,n_,n_,n_,n_,n_,n_,n_,n_,n_,n_,n_,n_,n_,n_,n_,n_,n_,n_,n_,n_,n_,n_,n_,n_,n_,n_,n_,n_,n_,n_,n_,n_,n_,n_,n_,n_,n_] hHeld ?_
                 refine pq_ 9 63 #[y_,y_,y_,y_,n_,y_,y_,y_,y_,y_,n_,n_,n_,n_,n_,n_,n_,n_,n_,n_,n_,n_,n_,n_,n_,n_,n_,n_,n_,n_,n_,n_,n_,n_,n_,n_,n_,n_,n_,n_,n_,n_,n_,n_,n_,n_,n_,n_] ?_
                 refine one_ (i := 4) (N := some 58) #[y_,y_,y_,y_,y_,y_,y_,y_,y_,y_,n_,n_,n_,n_,n_,n_,n_,n_,n_,n_,n_,n_,n_,n_,n_,n_,n_,n_,n_,n_,n_,n_,n_,n_,n_,n_,n_,n_,n_,n_,n_,n_,n_,n_,n_,n_,n_,n_] rfl rfl (one_of HT_.out (by kernel_rfl)) (by decide) (fun K hK => ?_)
                 refine goes_ Try.func26 (by kernel_rfl) rfl #[.agg #[.int .i64 ((rd_T42 l0 x6_1).f0), .int .i64 ((rd_T42 l0 x6_1).f1), .int .i64 ((rd_T42 l0 x6_1).f2), .int .i64 ((rd_T42 l0 x6_1).f3), .int .i64 ((rd_T42 l0 x6_1).f4)]] (by rfl) rfl rfl mp_ ?_
                 with_reducible refine (lockgatelaw06_jumps.calls ((rd_T42 l0 x6_1).f0) ((rd_T42 l0 x6_1).f1) ((rd_T42 l0 x6_1).f2) ((rd_T42 l0 x6_1).f3) ((rd_T42 l0 x6_1).f4) true _ A13.out).mono ?_
                 rintro e w25 ⟨rfl, hb⟩
                 have HS5_ := (hb.cell (World.block_lt_of_cell? _ _ (hHeld.2.2.2.2.2.1))).trans (hHeld.2.2.2.2.2.1)
                 have HS6_ := (hb.cell (World.block_lt_of_cell? _ _ (hHeld.2.2.2.2.2.2.1))).trans (hHeld.2.2.2.2.2.2.1)
                 have HS7_ := (hb.cell (World.block_lt_of_cell? _ _ (hHeld.2.2.2.2.2.2.2.1))).trans (hHeld.2.2.2.2.2.2.2.1)
                 have HS8_ := (hb.cell (World.block_lt_of_cell? _ _ (hHeld.2.2.2.2.2.2.2.2.1))).trans (hHeld.2.2.2.2.2.2.2.2.1)
                 have HS9_ := (hb.cell (World.block_lt_of_cell? _ _ (hHeld.2.2.2.2.2.2.2.2.2.1))).trans (hHeld.2.2.2.2.2.2.2.2.2.1)
                 have HS10_ := (hb.cell (World.block_lt_of_cell? _ _ (hHeld.2.2.2.2.2.2.2.2.2.2.1))).trans (hHeld.2.2.2.2.2.2.2.2.2.2.1)
                 refine ⟨_, rfl, ?_⟩
                 replace HO_3 := Aside0.mk (Kd.R_below (by (with_reducible repeat (first | apply Kd.R_alloc | apply Kd.R_drewN | apply Kd.R_drew)); exact HO_3.out) hb)
                 replace HO_5 := Aside0.mk (Kd.R_below (by (with_reducible repeat (first | apply Kd.R_alloc | apply Kd.R_drewN | apply Kd.R_drew)); exact HO_5.out) hb)
                 replace HB := bl_ hb
                 try clear hb
                 obtain ⟨Ao26, co26, eo26⟩ := Kd.R_slice HO_5.out
                 (first | subst eo26 | (injection eo26 with f1_ f2_ f3_; have f4_ := f1_.symm; have f5_ := f3_.symm; clear f1_ f2_ f3_; subst f4_; subst f5_))
                 refine hK.out _ _ ⟨((HB.out.cell (World.block_lt_of_cell? w _ hw441_0)).trans hw441_0), ((HB.out.cell (World.block_lt_of_cell? w _ hw441_1)).trans hw441_1), ((HB.out.cell (World.block_lt_of_cell? w _ hw441_2)).trans hw441_2), ((HB.out.cell (World.block_lt_of_cell? w _ hw441_3)).trans hw441_3), ((HB.out.cell (World.block_lt_of_cell? w _ hw441_4)).trans hw441_4), HS5_, HS6_, HS7_, HS8_, HS9_, HS10_, ((HB.out.cell (World.block_lt_of_cell? w _ hw449_0)).trans hw449_0), ((HB.out.cell (World.block_lt_of_cell? w _ hw449_1)).trans hw449_1), ((HB.out.cell (World.block_lt_of_cell? w _ hw449_2)).trans hw449_2), ((HB.out.cell (World.block_lt_of_cell? w _ hw449_3)).trans hw449_3), ((HB.out.cell (World.block_lt_of_cell? w _ hw449_4)).trans hw449_4)⟩ (fun hHeld => ?_)
                 clear hK K
                 refine norm_ (a' := ?_) ?_ ?_
                 rotate_left
                 ·show Act.put _ (some 58) _ = _
                  simp only [Act.put, s1_, s2_, s3_, i64_w, i32_w]
                  rfl
                 refine pq_ 10 64 #[y_,y_,y_,y_,y_,y_,y_,y_,y_,y_,y_,n_,n_,n_,n_,n_,n_,n_,n_,n_,n_,n_,n_,n_,n_,n_,n_,n_,n_,n_,n_,n_,n_,n_,n_,n_,n_,n_,n_,n_,n_,n_,n_,n_,n_,n_,n_,n_] ?_
                 refine pq_ 11 65 #[y_,y_,y_,y_,y_,y_,y_,y_,y_,y_,y_,y_,n_,n_,n_,n_,n_,n_,n_,n_,n_,n_,n_,n_,n_,n_,n_,n_,n_,n_,n_,n_,n_,n_,n_,n_,n_,n_,n_,n_,n_,n_,n_,n_,n_,n_,n_,n_] ?_
                 refine pq_ 12 66 #[y_,y_,y_,y_,y_,y_,y_,y_,y_,y_,y_,y_,y_,n_,n_,n_,n_,n_,n_,n_,n_,n_,n_,n_,n_,n_,n_,n_,n_,n_,n_,n_,n_,n_,n_,n_,n_,n_,n_,n_,n_,n_,n_,n_,n_,n_,n_,n_] ?_
                 refine pq_ 13 67 #[y_,y_,y_,y_,y_,y_,y_,y_,y_,y_,y_,y_,y_,y_,n_,n_,n_,n_,n_,n_,n_,n_,n_,n_,n_,n_,n_,n_,n_,n_,n_,n_,n_,n_,n_,n_,n_,n_,n_,n_,n_,n_,n_,n_,n_,n_,n_,n_] ?_
                 refine pq_ 14 68 #[y_,y_,y_,y_,y_,y_,y_,y_,y_,y_,y_,y_,y_,y_,y_,n_,n_,n_,n_,n_,n_,n_,n_,n_,n_,n_,n_,n_,n_,n_,n_,n_,n_,n_,n_,n_,n_,n_,n_,n_,n_,n_,n_,n_,n_,n_,n_,n_] ?_
                 refine pq_ 16 70 #[y_,y_,y_,y_,y_,y_,y_,y_,y_,y_,y_,y_,y_,y_,y_,n_,y_,n_,n_,n_,n_,n_,n_,n_,n_,n_,n_,n_,n_,n_,n_,n_,n_,n_,n_,n_,n_,n_,n_,n_,n_,n_,n_,n_,n_,n_,n_,n_] ?_
                 refine pq_ 17 71 #[y_,y_,y_,y_,y_,y_,y_,y_,y_,y_,y_,y_,y_,y_,y_,n_,y_,y_,n_,n_,n_,n_,n_,n_,n_,n_,n_,n_,n_,n_,n_,n_,n_,n_,n_,n_,n_,n_,n_,n_,n_,n_,n_,n_,n_,n_,n_,n_] ?_
                 refine tq2_ 15 69 #[y_,y_,y_,y_,y_,y_,y_,y_,y_,y_,y_,y_,y_,y_,y_,y_,y_,y_,n_,n_,n_,n_,n_,n_,n_,n_,n_,n_,n_,n_,n_,n_,n_,n_,n_,n_,n_,n_,n_,n_,n_,n_,n_,n_,n_,n_,n_,n_] hHeld ?_
                 refine pq_ 18 72 #[y_,y_,y_,y_,y_,y_,y_,y_,y_,y_,y_,y_,y_,y_,y_,y_,y_,y_,y_,n_,n_,n_,n_,n_,n_,n_,n_,n_,n_,n_,n_,n_,n_,n_,n_,n_,n_,n_,n_,n_,n_,n_,n_,n_,n_,n_,n_,n_] ?_
                 refine pq_ 19 73 #[y_,y_,y_,y_,y_,y_,y_,y_,y_,y_,y_,y_,y_,y_,y_,y_,y_,y_,y_,y_,n_,n_,n_,n_,n_,n_,n_,n_,n_,n_,n_,n_,n_,n_,n_,n_,n_,n_,n_,n_,n_,n_,n_,n_,n_,n_,n_,n_] ?_
                 refine pq_ 20 74 #[y_,y_,y_,y_,y_,y_,y_,y_,y_,y_,y_,y_,y_,y_,y_,y_,y_,y_,y_,y_,y_,n_,n_,n_,n_,n_,n_,n_,n_,n_,n_,n_,n_,n_,n_,n_,n_,n_,n_,n_,n_,n_,n_,n_,n_,n_,n_,n_] ?_
                 refine pq_ 21 75 #[y_,y_,y_,y_,y_,y_,y_,y_,y_,y_,y_,y_,y_,y_,y_,y_,y_,y_,y_,y_,y_,y_,n_,n_,n_,n_,n_,n_,n_,n_,n_,n_,n_,n_,n_,n_,n_,n_,n_,n_,n_,n_,n_,n_,n_,n_,n_,n_] ?_
                 refine pq_ 22 76 #[y_,y_,y_,y_,y_,y_,y_,y_,y_,y_,y_,y_,y_,y_,y_,y_,y_,y_,y_,y_,y_,y_,y_,n_,n_,n_,n_,n_,n_,n_,n_,n_,n_,n_,n_,n_,n_,n_,n_,n_,n_,n_,n_,n_,n_,n_,n_,n_] ?_
                 refine pq_ 23 77 #[y_,y_,y_,y_,y_,y_,y_,y_,y_,y_,y_,y_,y_,y_,y_,y_,y_,y_,y_,y_,y_,y_,y_,y_,n_,n_,n_,n_,n_,n_,n_,n_,n_,n_,n_,n_,n_,n_,n_,n_,n_,n_,n_,n_,n_,n_,n_,n_] ?_
                 refine tq2_ 24 78 #[y_,y_,y_,y_,y_,y_,y_,y_,y_,y_,y_,y_,y_,y_,y_,y_,y_,y_,y_,y_,y_,y_,y_,y_,y_,n_,n_,n_,n_,n_,n_,n_,n_,n_,n_,n_,n_,n_,n_,n_,n_,n_,n_,n_,n_,n_,n_,n_] hHeld ?_
                 refine pq_ 25 79 #[y_,y_,y_,y_,y_,y_,y_,y_,y_,y_,y_,y_,y_,y_,y_,y_,y_,y_,y_,y_,y_,y_,y_,y_,y_,y_,n_,n_,n_,n_,n_,n_,n_,n_,n_,n_,n_,n_,n_,n_,n_,n_,n_,n_,n_,n_,n_,n_] ?_
                 refine pq_ 26 80 #[y_,y_,y_,y_,y_,y_,y_,y_,y_,y_,y_,y_,y_,y_,y_,y_,y_,y_,y_,y_,y_,y_,y_,y_,y_,y_,y_,n_,n_,n_,n_,n_,n_,n_,n_,n_,n_,n_,n_,n_,n_,n_,n_,n_,n_,n_,n_,n_] ?_
                 refine pq_ 27 81 #[y_,y_,y_,y_,y_,y_,y_,y_,y_,y_,y_,y_,y_,y_,y_,y_,y_,y_,y_,y_,y_,y_,y_,y_,y_,y_,y_,y_,n_,n_,n_,n_,n_,n_,n_,n_,n_,n_,n_,n_,n_,n_,n_,n_,n_,n_,n_,n_] ?_
                 refine pq_ 28 82 #[y_,y_,y_,y_,y_,y_,y_,y_,y_,y_,y_,y_,y_,y_,y_,y_,y_,y_,y_,y_,y_,y_,y_,y_,y_,y_,y_,y_,y_,n_,n_,n_,n_,n_,n_,n_,n_,n_,n_,n_,n_,n_,n_,n_,n_,n_,n_,n_] ?_
                 refine pq_ 29 83 #[y_,y_,y_,y_,y_,y_,y_,y_,y_,y_,y_,y_,y_,y_,y_,y_,y_,y_,y_,y_,y_,y_,y_,y_,y_,y_,y_,y_,y_,y_,n_,n_,n_,n_,n_,n_,n_,n_,n_,n_,n_,n_,n_,n_,n_,n_,n_,n_] ?_
                 refine pq_ 30 84 #[y_,y_,y_,y_,y_,y_,y_,y_,y_,y_,y_,y_,y_,y_,y_,y_,y_,y_,y_,y_,y_,y_,y_,y_,y_,y_,y_,y_,y_,y_,y_,n_,n_,n_,n_,n_,n_,n_,n_,n_,n_,n_,n_,n_,n_,n_,n_,n_] ?_
                 refine pq_ 34 88 #[y_,y_,y_,y_,y_,y_,y_,y_,y_,y_,y_,y_,y_,y_,y_,y_,y_,y_,y_,y_,y_,y_,y_,y_,y_,y_,y_,y_,y_,y_,y_,n_,n_,n_,y_,n_,n_,n_,n_,n_,n_,n_,n_,n_,n_,n_,n_,n_] ?_
                 refine pq_ 35 89 #[y_,y_,y_,y_,y_,y_,y_,y_,y_,y_,y_,y_,y_,y_,y_,y_,y_,y_,y_,y_,y_,y_,y_,y_,y_,y_,y_,y_,y_,y_,y_,n_,n_,n_,y_,y_,n_,n_,n_,n_,n_,n_,n_,n_,n_,n_,n_,n_] ?_
                 refine pq_ 36 90 #[y_,y_,y_,y_,y_,y_,y_,y_,y_,y_,y_,y_,y_,y_,y_,y_,y_,y_,y_,y_,y_,y_,y_,y_,y_,y_,y_,y_,y_,y_,y_,n_,n_,n_,y_,y_,y_,n_,n_,n_,n_,n_,n_,n_,n_,n_,n_,n_] ?_
                 refine pq_ 37 91 #[y_,y_,y_,y_,y_,y_,y_,y_,y_,y_,y_,y_,y_,y_,y_,y_,y_,y_,y_,y_,y_,y_,y_,y_,y_,y_,y_,y_,y_,y_,y_,n_,n_,n_,y_,y_,y_,y_,n_,n_,n_,n_,n_,n_,n_,n_,n_,n_] ?_
                 refine pq_ 39 93 #[y_,y_,y_,y_,y_,y_,y_,y_,y_,y_,y_,y_,y_,y_,y_,y_,y_,y_,y_,y_,y_,y_,y_,y_,y_,y_,y_,y_,y_,y_,y_,n_,n_,n_,y_,y_,y_,y_,n_,y_,n_,n_,n_,n_,n_,n_,n_,n_] ?_
                 refine pq_ 40 94 #[y_,y_,y_,y_,y_,y_,y_,y_,y_,y_,y_,y_,y_,y_,y_,y_,y_,y_,y_,y_,y_,y_,y_,y_,y_,y_,y_,y_,y_,y_,y_,n_,n_,n_,y_,y_,y_,y_,n_,y_,y_,n_,n_,n_,n_,n_,n_,n_] ?_
                 refine pq_ 41 95 #[y_,y_,y_,y_,y_,y_,y_,y_,y_,y_,y_,y_,y_,y_,y_,y_,y_,y_,y_,y_,y_,y_,y_,y_,y_,y_,y_,y_,y_,y_,y_,n_,n_,n_,y_,y_,y_,y_,n_,y_,y_,y_,n_,n_,n_,n_,n_,n_] ?_
                 refine pq_ 42 96 #[y_,y_,y_,y_,y_,y_,y_,y_,y_,y_,y_,y_,y_,y_,y_,y_,y_,y_,y_,y_,y_,y_,y_,y_,y_,y_,y_,y_,y_,y_,y_,n_,n_,n_,y_,y_,y_,y_,n_,y_,y_,y_,y_,n_,n_,n_,n_,n_] ?_
                 refine tq2_ 31 85 #[y_,y_,y_,y_,y_,y_,y_,y_,y_,y_,y_,y_,y_,y_,y_,y_,y_,y_,y_,y_,y_,y_,y_,y_,y_,y_,y_,y_,y_,y_,y_,y_,n_,n_,y_,y_,y_,y_,n_,y_,y_,y_,y_,n_,n_,n_,n_,n_] hHeld ?_
                 refine pq_ 32 86 #[y_,y_,y_,y_,y_,y_,y_,y_,y_,y_,y_,y_,y_,y_,y_,y_,y_,y_,y_,y_,y_,y_,y_,y_,y_,y_,y_,y_,y_,y_,y_,y_,y_,n_,y_,y_,y_,y_,n_,y_,y_,y_,y_,n_,n_,n_,n_,n_] ?_
                 refine tq2_ 33 87 #[y_,y_,y_,y_,y_,y_,y_,y_,y_,y_,y_,y_,y_,y_,y_,y_,y_,y_,y_,y_,y_,y_,y_,y_,y_,y_,y_,y_,y_,y_,y_,y_,y_,y_,y_,y_,y_,y_,n_,y_,y_,y_,y_,n_,n_,n_,n_,n_] hHeld ?_
                 refine tq2_ 38 92 #[y_,y_,y_,y_,y_,y_,y_,y_,y_,y_,y_,y_,y_,y_,y_,y_,y_,y_,y_,y_,y_,y_,y_,y_,y_,y_,y_,y_,y_,y_,y_,y_,y_,y_,y_,y_,y_,y_,y_,y_,y_,y_,y_,n_,n_,n_,n_,n_] hHeld ?_
                 refine tq2_ 43 97 #[y_,y_,y_,y_,y_,y_,y_,y_,y_,y_,y_,y_,y_,y_,y_,y_,y_,y_,y_,y_,y_,y_,y_,y_,y_,y_,y_,y_,y_,y_,y_,y_,y_,y_,y_,y_,y_,y_,y_,y_,y_,y_,y_,y_,n_,n_,n_,n_] hHeld ?_
                 refine pq_ 44 98 #[y_,y_,y_,y_,y_,y_,y_,y_,y_,y_,y_,y_,y_,y_,y_,y_,y_,y_,y_,y_,y_,y_,y_,y_,y_,y_,y_,y_,y_,y_,y_,y_,y_,y_,y_,y_,y_,y_,y_,y_,y_,y_,y_,y_,y_,n_,n_,n_] ?_
                 refine pq_ 45 99 #[y_,y_,y_,y_,y_,y_,y_,y_,y_,y_,y_,y_,y_,y_,y_,y_,y_,y_,y_,y_,y_,y_,y_,y_,y_,y_,y_,y_,y_,y_,y_,y_,y_,y_,y_,y_,y_,y_,y_,y_,y_,y_,y_,y_,y_,y_,n_,n_] ?_
                 refine pq_ 46 100 #[y_,y_,y_,y_,y_,y_,y_,y_,y_,y_,y_,y_,y_,y_,y_,y_,y_,y_,y_,y_,y_,y_,y_,y_,y_,y_,y_,y_,y_,y_,y_,y_,y_,y_,y_,y_,y_,y_,y_,y_,y_,y_,y_,y_,y_,y_,y_,n_] ?_
                 refine pq_ 47 101 #[y_,y_,y_,y_,y_,y_,y_,y_,y_,y_,y_,y_,y_,y_,y_,y_,y_,y_,y_,y_,y_,y_,y_,y_,y_,y_,y_,y_,y_,y_,y_,y_,y_,y_,y_,y_,y_,y_,y_,y_,y_,y_,y_,y_,y_,y_,y_,y_] ?_
                 refine done_ (done_of HT_.out (by kernel_rfl)) ?_
                 try go_wp2
                 go_roundg k1
                 case measure => have := HK1.out; omega
                 case rel => exact ⟨(ji20), (by first | rfl | (simp; done) | (simp only [← hji20] <;> (first | rfl | simp)) | (simp [*]; done)), H', ⟨by have := HK1.out; omega⟩, ⟨by (with_reducible repeat (first | apply Kd.R_alloc | apply Kd.R_drewN | apply Kd.R_drew)); exact HO_3.out⟩, ⟨by (with_reducible repeat (first | apply Kd.R_alloc | apply Kd.R_drewN | apply Kd.R_drew)); exact HO_5.out⟩, ⟨bz_⟩⟩
                ·rw [if_neg c23] at H
                 have c23b0 : ((rd t437 (rd t433 x6_1)) == (wrap64 ((rd t437 (ji20)) + ((rd_T42 l0 x6_1).f3)))) = false := beq_eq_false_iff_ne.mpr c23
                 have c23b1 : ((rd t437 (rd t433 x6_1)) != (wrap64 ((rd t437 (ji20)) + ((rd_T42 l0 x6_1).f3)))) = true := bne_iff_ne.mpr c23
                 exact absurd ((Option.some.inj H).trans HRT.out) (by decide)
               ·rw [if_neg c22] at H
                exact absurd H (by simp)
              ·rw [if_neg c21] at H
               exact absurd H (by simp)
             ·rw [if_neg c19] at H
              exact absurd H (by simp)
            ·rw [if_neg c18] at H
             exact absurd H (by simp)
           ·rw [if_neg c17] at H
            have c17b0 : decide (0 ≤ (rd t433 x6_1)) = false := decide_eq_false c17
            have ht_ : t442 = false := by rw [bne_eq_false_iff_eq] at c15b0; rw [c15b0]; exact decide_eq_false c17
            subst ht_
            clear c17
            have H' := Aside0.mk H
            clear H
            try go_wp2
            replace HO_3 := Aside0.mk (Kd.R_drew HO_3.out)
            replace HO_5 := Aside0.mk (Kd.R_drew HO_5.out)
            replace HB := Aside0.mk (below_drew1 HB.out)
            have p441 : 0 ≤ (x6_1 : Int) := of_decide_eq_true (by first | (with_reducible assumption) | assumption)
            have q441 : x6_1 < (l0.length : Int) := of_decide_eq_true (by first | (with_reducible assumption) | assumption)
            obtain ⟨ad441, e441, hx441_0, hx441_1, hx441_2, hx441_3, hx441_4⟩ := at_T42 HR0.out x6_1 p441 q441
            have hw441_4 := hx441_4
            have hw441_3 := hx441_3
            have hw441_2 := hx441_2
            have hw441_1 := hx441_1
            have hw441_0 := hx441_0
            cases e441
            replace hx441_0 := (HB.out.cell (World.block_lt_of_cell? w _ hx441_0)).trans hx441_0
            replace hx441_1 := (HB.out.cell (World.block_lt_of_cell? w _ hx441_1)).trans hx441_1
            replace hx441_2 := (HB.out.cell (World.block_lt_of_cell? w _ hx441_2)).trans hx441_2
            replace hx441_3 := (HB.out.cell (World.block_lt_of_cell? w _ hx441_3)).trans hx441_3
            replace hx441_4 := (HB.out.cell (World.block_lt_of_cell? w _ hx441_4)).trans hx441_4
            replace p441 := eq_true p441
            replace q441 := eq_true q441
            have p443 : 0 ≤ (x6_1 : Int) := of_decide_eq_true (by first | (with_reducible assumption) | assumption)
            have q443 : x6_1 < (t433.length : Int) := of_decide_eq_true (by first | (with_reducible assumption) | assumption)
            obtain ⟨ad443, e443, hx443_0⟩ := Kd.at_int (Kd.R_reads' HO_3.out).2.2 x6_1 p443 q443
            cases e443
            replace p443 := eq_true p443
            replace q443 := eq_true q443
            have p444 : 0 ≤ (x6_1 : Int) := of_decide_eq_true (by first | (with_reducible assumption) | assumption)
            have q444 : x6_1 < (t433.length : Int) := of_decide_eq_true (by first | (with_reducible assumption) | assumption)
            obtain ⟨ad444, e444, hx444_0⟩ := Kd.at_int (Kd.R_reads' HO_3.out).2.2 x6_1 p444 q444
            obtain rfl : ad443 = ad444 := (by injection e444)
            replace p444 := eq_true p444
            replace q444 := eq_true q444
            have p445 : 0 ≤ (x6_1 : Int) := of_decide_eq_true (by first | (with_reducible assumption) | assumption)
            have q445 : x6_1 < (t433.length : Int) := of_decide_eq_true (by first | (with_reducible assumption) | assumption)
            obtain ⟨ad445, e445, hx445_0⟩ := Kd.at_int (Kd.R_reads' HO_3.out).2.2 x6_1 p445 q445
            obtain rfl : ad443 = ad445 := (by injection e445)
            replace p445 := eq_true p445
            replace q445 := eq_true q445
            refine start_ (n := 48) (S := fun w' => w'.cell? (ad441.add ((x6_1).toNat * 5)) = some (.int .i64 ((rd_T42 l0 x6_1).f0)) ∧ w'.cell? ⟨(ad441.add ((x6_1).toNat * 5)).block, (ad441.add ((x6_1).toNat * 5)).off + 1, none⟩ = some (.int .i64 ((rd_T42 l0 x6_1).f1)) ∧ w'.cell? ⟨(ad441.add ((x6_1).toNat * 5)).block, (ad441.add ((x6_1).toNat * 5)).off + 2, none⟩ = some (.int .i64 ((rd_T42 l0 x6_1).f2)) ∧ w'.cell? ⟨(ad441.add ((x6_1).toNat * 5)).block, (ad441.add ((x6_1).toNat * 5)).off + 3, none⟩ = some (.int .i64 ((rd_T42 l0 x6_1).f3)) ∧ w'.cell? ⟨(ad441.add ((x6_1).toNat * 5)).block, (ad441.add ((x6_1).toNat * 5)).off + 4, none⟩ = some (.int .i64 ((rd_T42 l0 x6_1).f4)) ∧ w'.cell? (ad443.add (x6_1).toNat) = some (.int .i64 (rd t433 x6_1)) ∧ w'.cell? (ad443.add (x6_1).toNat) = some (.int .i64 (rd t433 x6_1)) ∧ w'.cell? (ad443.add (x6_1).toNat) = some (.int .i64 (rd t433 x6_1))) (ds := []) #[n_,n_,n_,n_,n_,n_,n_,n_,n_,n_,n_,n_,n_,n_,n_,n_,n_,n_,n_,n_,n_,n_,n_,n_,n_,n_,n_,n_,n_,n_,n_,n_,n_,n_,n_,n_,n_,n_,n_,n_,n_,n_,n_,n_,n_,n_,n_,n_] (by kernel_rfl) rfl rfl ⟨((HB.out.cell (World.block_lt_of_cell? w _ hw441_0)).trans hw441_0), ((HB.out.cell (World.block_lt_of_cell? w _ hw441_1)).trans hw441_1), ((HB.out.cell (World.block_lt_of_cell? w _ hw441_2)).trans hw441_2), ((HB.out.cell (World.block_lt_of_cell? w _ hw441_3)).trans hw441_3), ((HB.out.cell (World.block_lt_of_cell? w _ hw441_4)).trans hw441_4), hx443_0, hx444_0, hx445_0⟩ (fun hHeld => ?_); refine with_tabW lockgatelaw06_FlowLands.tab12 lockgatelaw06_FlowLands.bits12 (fun HT_ HW_ => ?_)
            generalize wr.drew = w27 at HO_3 HO_5 HB hx441_0 hx441_1 hx441_2 hx441_3 hx441_4 hx443_0 hx444_0 hx445_0 hHeld ⊢
            refine pq_ 0 54 #[y_,n_,n_,n_,n_,n_,n_,n_,n_,n_,n_,n_,n_,n_,n_,n_,n_,n_,n_,n_,n_,n_,n_,n_,n_,n_,n_,n_,n_,n_,n_,n_,n_,n_,n_,n_,n_,n_,n_,n_,n_,n_,n_,n_,n_,n_,n_,n_] ?_
            refine pq_ 1 55 #[y_,y_,n_,n_,n_,n_,n_,n_,n_,n_,n_,n_,n_,n_,n_,n_,n_,n_,n_,n_,n_,n_,n_,n_,n_,n_,n_,n_,n_,n_,n_,n_,n_,n_,n_,n_,n_,n_,n_,n_,n_,n_,n_,n_,n_,n_,n_,n_] ?_
            refine pq_ 2 56 #[y_,y_,y_,n_,n_,n_,n_,n_,n_,n_,n_,n_,n_,n_,n_,n_,n_,n_,n_,n_,n_,n_,n_,n_,n_,n_,n_,n_,n_,n_,n_,n_,n_,n_,n_,n_,n_,n_,n_,n_,n_,n_,n_,n_,n_,n_,n_,n_] ?_
            refine pq_ 5 59 #[y_,y_,y_,n_,n_,y_,n_,n_,n_,n_,n_,n_,n_,n_,n_,n_,n_,n_,n_,n_,n_,n_,n_,n_,n_,n_,n_,n_,n_,n_,n_,n_,n_,n_,n_,n_,n_,n_,n_,n_,n_,n_,n_,n_,n_,n_,n_,n_] ?_
            refine pq_ 6 60 #[y_,y_,y_,n_,n_,y_,y_,n_,n_,n_,n_,n_,n_,n_,n_,n_,n_,n_,n_,n_,n_,n_,n_,n_,n_,n_,n_,n_,n_,n_,n_,n_,n_,n_,n_,n_,n_,n_,n_,n_,n_,n_,n_,n_,n_,n_,n_,n_] ?_
            refine pq_ 7 61 #[y_,y_,y_,n_,n_,y_,y_,y_,n_,n_,n_,n_,n_,n_,n_,n_,n_,n_,n_,n_,n_,n_,n_,n_,n_,n_,n_,n_,n_,n_,n_,n_,n_,n_,n_,n_,n_,n_,n_,n_,n_,n_,n_,n_,n_,n_,n_,n_] ?_
            refine tq3_ 3 57 #[y_,y_,y_,y_,n_,y_,y_,y_,n_,n_,n_,n_,n_,n_,n_,n_,n_,n_,n_,n_,n_,n_,n_,n_,n_,n_,n_,n_,n_,n_,n_,n_,n_,n_,n_,n_,n_,n_,n_,n_,n_,n_,n_,n_,n_,n_,n_,n_] hHeld ?_
            refine tq3_ 8 62 #[y_,y_,y_,y_,n_,y_,y_,y_,y_,n_,n_,n_,n_,n_,n_,n_,n_,n_,n_,n_,n_,n_,n_,n_,n_,n_,n_,n_,n_,n_,n_,n_,n_,n_,n_,n_,n_,n_,n_,n_,n_,n_,n_,n_,n_,n_,n_,n_] hHeld ?_
            refine pq_ 9 63 #[y_,y_,y_,y_,n_,y_,y_,y_,y_,y_,n_,n_,n_,n_,n_,n_,n_,n_,n_,n_,n_,n_,n_,n_,n_,n_,n_,n_,n_,n_,n_,n_,n_,n_,n_,n_,n_,n_,n_,n_,n_,n_,n_,n_,n_,n_,n_,n_] ?_
            refine one_ (i := 4) (N := some 58) #[y_,y_,y_,y_,y_,y_,y_,y_,y_,y_,n_,n_,n_,n_,n_,n_,n_,n_,n_,n_,n_,n_,n_,n_,n_,n_,n_,n_,n_,n_,n_,n_,n_,n_,n_,n_,n_,n_,n_,n_,n_,n_,n_,n_,n_,n_,n_,n_] rfl rfl (one_of HT_.out (by kernel_rfl)) (by decide) (fun K hK => ?_)
            refine goes_ Try.func26 (by kernel_rfl) rfl #[.agg #[.int .i64 ((rd_T42 l0 x6_1).f0), .int .i64 ((rd_T42 l0 x6_1).f1), .int .i64 ((rd_T42 l0 x6_1).f2), .int .i64 ((rd_T42 l0 x6_1).f3), .int .i64 ((rd_T42 l0 x6_1).f4)]] (by rfl) rfl rfl mp_ ?_
            with_reducible refine (lockgatelaw06_jumps.calls ((rd_T42 l0 x6_1).f0) ((rd_T42 l0 x6_1).f1) ((rd_T42 l0 x6_1).f2) ((rd_T42 l0 x6_1).f3) ((rd_T42 l0 x6_1).f4) false _ A13.out).mono ?_
            rintro e w28 ⟨rfl, hb⟩
            have HS5_ := (hb.cell (World.block_lt_of_cell? _ _ (hHeld.2.2.2.2.2.1))).trans (hHeld.2.2.2.2.2.1)
            have HS6_ := (hb.cell (World.block_lt_of_cell? _ _ (hHeld.2.2.2.2.2.2.1))).trans (hHeld.2.2.2.2.2.2.1)
            have HS7_ := (hb.cell (World.block_lt_of_cell? _ _ (hHeld.2.2.2.2.2.2.2))).trans (hHeld.2.2.2.2.2.2.2)
            refine ⟨_, rfl, ?_⟩
            replace HO_3 := Aside0.mk (Kd.R_below (by (with_reducible repeat (first | apply Kd.R_alloc | apply Kd.R_drewN | apply Kd.R_drew)); exact HO_3.out) hb)
            replace HO_5 := Aside0.mk (Kd.R_below (by (with_reducible repeat (first | apply Kd.R_alloc | apply Kd.R_drewN | apply Kd.R_drew)); exact HO_5.out) hb)
            replace HB := bl_ hb
            try clear hb
            refine hK.out _ _ ⟨((HB.out.cell (World.block_lt_of_cell? w _ hw441_0)).trans hw441_0), ((HB.out.cell (World.block_lt_of_cell? w _ hw441_1)).trans hw441_1), ((HB.out.cell (World.block_lt_of_cell? w _ hw441_2)).trans hw441_2), ((HB.out.cell (World.block_lt_of_cell? w _ hw441_3)).trans hw441_3), ((HB.out.cell (World.block_lt_of_cell? w _ hw441_4)).trans hw441_4), HS5_, HS6_, HS7_⟩ (fun hHeld => ?_)
            clear hK K
            refine norm_ (a' := ?_) ?_ ?_
            rotate_left
            ·show Act.put _ (some 58) _ = _
             simp only [Act.put, s1_, s2_, s3_, i64_w, i32_w]
             rfl
            refine pq_ 10 64 #[y_,y_,y_,y_,y_,y_,y_,y_,y_,y_,y_,n_,n_,n_,n_,n_,n_,n_,n_,n_,n_,n_,n_,n_,n_,n_,n_,n_,n_,n_,n_,n_,n_,n_,n_,n_,n_,n_,n_,n_,n_,n_,n_,n_,n_,n_,n_,n_] ?_
            refine pq_ 11 65 #[y_,y_,y_,y_,y_,y_,y_,y_,y_,y_,y_,y_,n_,n_,n_,n_,n_,n_,n_,n_,n_,n_,n_,n_,n_,n_,n_,n_,n_,n_,n_,n_,n_,n_,n_,n_,n_,n_,n_,n_,n_,n_,n_,n_,n_,n_,n_,n_] ?_
            refine pq_ 12 66 #[y_,y_,y_,y_,y_,y_,y_,y_,y_,y_,y_,y_,y_,n_,n_,n_,n_,n_,n_,n_,n_,n_,n_,n_,n_,n_,n_,n_,n_,n_,n_,n_,n_,n_,n_,n_,n_,n_,n_,n_,n_,n_,n_,n_,n_,n_,n_,n_] ?_
            refine pq_ 13 67 #[y_,y_,y_,y_,y_,y_,y_,y_,y_,y_,y_,y_,y_,y_,n_,n_,n_,n_,n_,n_,n_,n_,n_,n_,n_,n_,n_,n_,n_,n_,n_,n_,n_,n_,n_,n_,n_,n_,n_,n_,n_,n_,n_,n_,n_,n_,n_,n_] ?_
            refine pq_ 14 68 #[y_,y_,y_,y_,y_,y_,y_,y_,y_,y_,y_,y_,y_,y_,y_,n_,n_,n_,n_,n_,n_,n_,n_,n_,n_,n_,n_,n_,n_,n_,n_,n_,n_,n_,n_,n_,n_,n_,n_,n_,n_,n_,n_,n_,n_,n_,n_,n_] ?_
            refine pq_ 16 70 #[y_,y_,y_,y_,y_,y_,y_,y_,y_,y_,y_,y_,y_,y_,y_,n_,y_,n_,n_,n_,n_,n_,n_,n_,n_,n_,n_,n_,n_,n_,n_,n_,n_,n_,n_,n_,n_,n_,n_,n_,n_,n_,n_,n_,n_,n_,n_,n_] ?_
            refine pq_ 17 71 #[y_,y_,y_,y_,y_,y_,y_,y_,y_,y_,y_,y_,y_,y_,y_,n_,y_,y_,n_,n_,n_,n_,n_,n_,n_,n_,n_,n_,n_,n_,n_,n_,n_,n_,n_,n_,n_,n_,n_,n_,n_,n_,n_,n_,n_,n_,n_,n_] ?_
            refine tq3_ 15 69 #[y_,y_,y_,y_,y_,y_,y_,y_,y_,y_,y_,y_,y_,y_,y_,y_,y_,y_,n_,n_,n_,n_,n_,n_,n_,n_,n_,n_,n_,n_,n_,n_,n_,n_,n_,n_,n_,n_,n_,n_,n_,n_,n_,n_,n_,n_,n_,n_] hHeld ?_
            refine pq_ 18 72 #[y_,y_,y_,y_,y_,y_,y_,y_,y_,y_,y_,y_,y_,y_,y_,y_,y_,y_,y_,n_,n_,n_,n_,n_,n_,n_,n_,n_,n_,n_,n_,n_,n_,n_,n_,n_,n_,n_,n_,n_,n_,n_,n_,n_,n_,n_,n_,n_] ?_
            refine pq_ 19 73 #[y_,y_,y_,y_,y_,y_,y_,y_,y_,y_,y_,y_,y_,y_,y_,y_,y_,y_,y_,y_,n_,n_,n_,n_,n_,n_,n_,n_,n_,n_,n_,n_,n_,n_,n_,n_,n_,n_,n_,n_,n_,n_,n_,n_,n_,n_,n_,n_] ?_
            refine pq_ 20 74 #[y_,y_,y_,y_,y_,y_,y_,y_,y_,y_,y_,y_,y_,y_,y_,y_,y_,y_,y_,y_,y_,n_,n_,n_,n_,n_,n_,n_,n_,n_,n_,n_,n_,n_,n_,n_,n_,n_,n_,n_,n_,n_,n_,n_,n_,n_,n_,n_] ?_
            refine pq_ 21 75 #[y_,y_,y_,y_,y_,y_,y_,y_,y_,y_,y_,y_,y_,y_,y_,y_,y_,y_,y_,y_,y_,y_,n_,n_,n_,n_,n_,n_,n_,n_,n_,n_,n_,n_,n_,n_,n_,n_,n_,n_,n_,n_,n_,n_,n_,n_,n_,n_] ?_
            refine pq_ 22 76 #[y_,y_,y_,y_,y_,y_,y_,y_,y_,y_,y_,y_,y_,y_,y_,y_,y_,y_,y_,y_,y_,y_,y_,n_,n_,n_,n_,n_,n_,n_,n_,n_,n_,n_,n_,n_,n_,n_,n_,n_,n_,n_,n_,n_,n_,n_,n_,n_] ?_
            refine pq_ 23 77 #[y_,y_,y_,y_,y_,y_,y_,y_,y_,y_,y_,y_,y_,y_,y_,y_,y_,y_,y_,y_,y_,y_,y_,y_,n_,n_,n_,n_,n_,n_,n_,n_,n_,n_,n_,n_,n_,n_,n_,n_,n_,n_,n_,n_,n_,n_,n_,n_] ?_
            refine tq3_ 24 78 #[y_,y_,y_,y_,y_,y_,y_,y_,y_,y_,y_,y_,y_,y_,y_,y_,y_,y_,y_,y_,y_,y_,y_,y_,y_,n_,n_,n_,n_,n_,n_,n_,n_,n_,n_,n_,n_,n_,n_,n_,n_,n_,n_,n_,n_,n_,n_,n_] hHeld ?_
            refine pq_ 25 79 #[y_,y_,y_,y_,y_,y_,y_,y_,y_,y_,y_,y_,y_,y_,y_,y_,y_,y_,y_,y_,y_,y_,y_,y_,y_,y_,n_,n_,n_,n_,n_,n_,n_,n_,n_,n_,n_,n_,n_,n_,n_,n_,n_,n_,n_,n_,n_,n_] ?_
            refine pq_ 26 80 #[y_,y_,y_,y_,y_,y_,y_,y_,y_,y_,y_,y_,y_,y_,y_,y_,y_,y_,y_,y_,y_,y_,y_,y_,y_,y_,y_,n_,n_,n_,n_,n_,n_,n_,n_,n_,n_,n_,n_,n_,n_,n_,n_,n_,n_,n_,n_,n_] ?_
            refine pu_ 27 81 #[y_,y_,y_,y_,y_,y_,y_,y_,y_,y_,y_,y_,y_,y_,y_,y_,y_,y_,y_,y_,y_,y_,y_,y_,y_,y_,y_,y_,n_,n_,n_,n_,n_,n_,n_,n_,n_,n_,n_,n_,n_,n_,n_,n_,n_,n_,n_,n_] ?_
            refine pu_ 28 82 #[y_,y_,y_,y_,y_,y_,y_,y_,y_,y_,y_,y_,y_,y_,y_,y_,y_,y_,y_,y_,y_,y_,y_,y_,y_,y_,y_,y_,y_,n_,n_,n_,n_,n_,n_,n_,n_,n_,n_,n_,n_,n_,n_,n_,n_,n_,n_,n_] ?_
            refine pu_ 29 83 #[y_,y_,y_,y_,y_,y_,y_,y_,y_,y_,y_,y_,y_,y_,y_,y_,y_,y_,y_,y_,y_,y_,y_,y_,y_,y_,y_,y_,y_,y_,n_,n_,n_,n_,n_,n_,n_,n_,n_,n_,n_,n_,n_,n_,n_,n_,n_,n_] ?_
            refine pu_ 30 84 #[y_,y_,y_,y_,y_,y_,y_,y_,y_,y_,y_,y_,y_,y_,y_,y_,y_,y_,y_,y_,y_,y_,y_,y_,y_,y_,y_,y_,y_,y_,y_,n_,n_,n_,n_,n_,n_,n_,n_,n_,n_,n_,n_,n_,n_,n_,n_,n_] ?_
            refine pu_ 31 85 #[y_,y_,y_,y_,y_,y_,y_,y_,y_,y_,y_,y_,y_,y_,y_,y_,y_,y_,y_,y_,y_,y_,y_,y_,y_,y_,y_,y_,y_,y_,y_,y_,n_,n_,n_,n_,n_,n_,n_,n_,n_,n_,n_,n_,n_,n_,n_,n_] ?_
            refine pu_ 32 86 #[y_,y_,y_,y_,y_,y_,y_,y_,y_,y_,y_,y_,y_,y_,y_,y_,y_,y_,y_,y_,y_,y_,y_,y_,y_,y_,y_,y_,y_,y_,y_,y_,y_,n_,n_,n_,n_,n_,n_,n_,n_,n_,n_,n_,n_,n_,n_,n_] ?_
            refine pu_ 33 87 #[y_,y_,y_,y_,y_,y_,y_,y_,y_,y_,y_,y_,y_,y_,y_,y_,y_,y_,y_,y_,y_,y_,y_,y_,y_,y_,y_,y_,y_,y_,y_,y_,y_,y_,n_,n_,n_,n_,n_,n_,n_,n_,n_,n_,n_,n_,n_,n_] ?_
            refine pu_ 34 88 #[y_,y_,y_,y_,y_,y_,y_,y_,y_,y_,y_,y_,y_,y_,y_,y_,y_,y_,y_,y_,y_,y_,y_,y_,y_,y_,y_,y_,y_,y_,y_,y_,y_,y_,y_,n_,n_,n_,n_,n_,n_,n_,n_,n_,n_,n_,n_,n_] ?_
            refine pu_ 35 89 #[y_,y_,y_,y_,y_,y_,y_,y_,y_,y_,y_,y_,y_,y_,y_,y_,y_,y_,y_,y_,y_,y_,y_,y_,y_,y_,y_,y_,y_,y_,y_,y_,y_,y_,y_,y_,n_,n_,n_,n_,n_,n_,n_,n_,n_,n_,n_,n_] ?_
            refine pu_ 36 90 #[y_,y_,y_,y_,y_,y_,y_,y_,y_,y_,y_,y_,y_,y_,y_,y_,y_,y_,y_,y_,y_,y_,y_,y_,y_,y_,y_,y_,y_,y_,y_,y_,y_,y_,y_,y_,y_,n_,n_,n_,n_,n_,n_,n_,n_,n_,n_,n_] ?_
            refine pu_ 37 91 #[y_,y_,y_,y_,y_,y_,y_,y_,y_,y_,y_,y_,y_,y_,y_,y_,y_,y_,y_,y_,y_,y_,y_,y_,y_,y_,y_,y_,y_,y_,y_,y_,y_,y_,y_,y_,y_,y_,n_,n_,n_,n_,n_,n_,n_,n_,n_,n_] ?_
            refine pu_ 38 92 #[y_,y_,y_,y_,y_,y_,y_,y_,y_,y_,y_,y_,y_,y_,y_,y_,y_,y_,y_,y_,y_,y_,y_,y_,y_,y_,y_,y_,y_,y_,y_,y_,y_,y_,y_,y_,y_,y_,y_,n_,n_,n_,n_,n_,n_,n_,n_,n_] ?_
            refine pu_ 39 93 #[y_,y_,y_,y_,y_,y_,y_,y_,y_,y_,y_,y_,y_,y_,y_,y_,y_,y_,y_,y_,y_,y_,y_,y_,y_,y_,y_,y_,y_,y_,y_,y_,y_,y_,y_,y_,y_,y_,y_,y_,n_,n_,n_,n_,n_,n_,n_,n_] ?_
            refine pu_ 40 94 #[y_,y_,y_,y_,y_,y_,y_,y_,y_,y_,y_,y_,y_,y_,y_,y_,y_,y_,y_,y_,y_,y_,y_,y_,y_,y_,y_,y_,y_,y_,y_,y_,y_,y_,y_,y_,y_,y_,y_,y_,y_,n_,n_,n_,n_,n_,n_,n_] ?_
            refine pu_ 41 95 #[y_,y_,y_,y_,y_,y_,y_,y_,y_,y_,y_,y_,y_,y_,y_,y_,y_,y_,y_,y_,y_,y_,y_,y_,y_,y_,y_,y_,y_,y_,y_,y_,y_,y_,y_,y_,y_,y_,y_,y_,y_,y_,n_,n_,n_,n_,n_,n_] ?_
            refine pu_ 42 96 #[y_,y_,y_,y_,y_,y_,y_,y_,y_,y_,y_,y_,y_,y_,y_,y_,y_,y_,y_,y_,y_,y_,y_,y_,y_,y_,y_,y_,y_,y_,y_,y_,y_,y_,y_,y_,y_,y_,y_,y_,y_,y_,y_,n_,n_,n_,n_,n_] ?_
            refine pu_ 43 97 #[y_,y_,y_,y_,y_,y_,y_,y_,y_,y_,y_,y_,y_,y_,y_,y_,y_,y_,y_,y_,y_,y_,y_,y_,y_,y_,y_,y_,y_,y_,y_,y_,y_,y_,y_,y_,y_,y_,y_,y_,y_,y_,y_,y_,n_,n_,n_,n_] ?_
            refine pu_ 44 98 #[y_,y_,y_,y_,y_,y_,y_,y_,y_,y_,y_,y_,y_,y_,y_,y_,y_,y_,y_,y_,y_,y_,y_,y_,y_,y_,y_,y_,y_,y_,y_,y_,y_,y_,y_,y_,y_,y_,y_,y_,y_,y_,y_,y_,y_,n_,n_,n_] ?_
            refine pu_ 45 99 #[y_,y_,y_,y_,y_,y_,y_,y_,y_,y_,y_,y_,y_,y_,y_,y_,y_,y_,y_,y_,y_,y_,y_,y_,y_,y_,y_,y_,y_,y_,y_,y_,y_,y_,y_,y_,y_,y_,y_,y_,y_,y_,y_,y_,y_,y_,n_,n_] ?_
            refine pq_ 46 100 #[y_,y_,y_,y_,y_,y_,y_,y_,y_,y_,y_,y_,y_,y_,y_,y_,y_,y_,y_,y_,y_,y_,y_,y_,y_,y_,y_,y_,y_,y_,y_,y_,y_,y_,y_,y_,y_,y_,y_,y_,y_,y_,y_,y_,y_,y_,y_,n_] ?_
            refine pq_ 47 101 #[y_,y_,y_,y_,y_,y_,y_,y_,y_,y_,y_,y_,y_,y_,y_,y_,y_,y_,y_,y_,y_,y_,y_,y_,y_,y_,y_,y_,y_,y_,y_,y_,y_,y_,y_,y_,y_,y_,y_,y_,y_,y_,y_,y_,y_,y_,y_,y_] ?_
            refine done_ (done_of HT_.out (by kernel_rfl)) ?_
            try go_wp2
            go_roundg k1
            case measure => have := HK1.out; omega
            case rel => exact ⟨(wrap64 (x6_1 + 1)), (by first | rfl | (simp; done) | (simp [*]; done)), H', ⟨by have := HK1.out; omega⟩, ⟨by (with_reducible repeat (first | apply Kd.R_alloc | apply Kd.R_drewN | apply Kd.R_drew)); exact HO_3.out⟩, ⟨by (with_reducible repeat (first | apply Kd.R_alloc | apply Kd.R_drewN | apply Kd.R_drew)); exact HO_5.out⟩, ⟨bz_⟩⟩
        ·rw [if_neg c14] at H
         exact absurd H (by simp)
       ·rw [if_neg c12] at H
        exact absurd H (by simp)
      ·rw [if_neg c11] at H
       have c11b0 : decide (x6_1 < (l0.length : Int)) = false := decide_eq_false c11
       clear c11
       obtain ⟨ji29, hji29⟩ : ∃ j_ : Int, (wrap64 ((l0.length : Int) - 1)) = j_ := ⟨_, rfl⟩
       replace H : (if 0 ≤ (ji29) then (if (ji29) < (l0.length : Int) then (if (Go.bits .and .i64 ((rd_T42 l0 (ji29)).f0) 247) = 149 then ((lockgatelaw06_works.f k1).bind fun t452 => (some t452)) else (if (Go.bits .and .i64 ((rd_T42 l0 (ji29)).f0) 247) = 5 then ((lockgatelaw06_works.f k1).bind fun t453 => (some t453)) else (some false))) else (none)) else (none)) = some r := by first | (rw [hji29] at H; exact H) | (simp only [hji29] at H ⊢; exact H)
       have hji29w : (IntKind.i64.wrap ((l0.length : Int) - 1)) = ji29 := (i64_w _).trans hji29
       by_cases c30 : 0 ≤ (ji29)
       ·rw [if_pos c30] at H
        have c30b0 : decide (0 ≤ (ji29)) = true := decide_eq_true c30
        clear c30
        by_cases c31 : (ji29) < (l0.length : Int)
        ·rw [if_pos c31] at H
         have c31b0 : decide ((ji29) < (l0.length : Int)) = true := decide_eq_true c31
         clear c31
         by_cases c32 : (Go.bits .and .i64 ((rd_T42 l0 (ji29)).f0) 247) = 149
         ·rw [if_pos c32] at H
          have c32b0 : ((Go.bits .and .i64 ((rd_T42 l0 (ji29)).f0) 247) == 149) = true := beq_iff_eq.mpr c32
          have c32b1 : ((Go.bits .and .i64 ((rd_T42 l0 (ji29)).f0) 247) != 149) = false := bne_eq_false_iff_eq.mpr c32
          clear c32
          replace H := Option.bind_eq_some_iff.mp H
          obtain ⟨t452, A330, H⟩ := H
          replace H : (some t452) = some r := H
          have A33 := Aside0.mk A330
          clear A330
          obtain rfl := Option.some.inj H
          have p450 : 0 ≤ ((ji29) : Int) := of_decide_eq_true (by first | (with_reducible assumption) | assumption)
          have q450 : (ji29) < (l0.length : Int) := of_decide_eq_true (by first | (with_reducible assumption) | assumption)
          obtain ⟨ad450, e450, hx450_0, hx450_1, hx450_2, hx450_3, hx450_4⟩ := at_T42 HR0.out (ji29) p450 q450
          cases e450
          replace hx450_0 := (HB.out.cell (World.block_lt_of_cell? w _ hx450_0)).trans hx450_0
          replace hx450_1 := (HB.out.cell (World.block_lt_of_cell? w _ hx450_1)).trans hx450_1
          replace hx450_2 := (HB.out.cell (World.block_lt_of_cell? w _ hx450_2)).trans hx450_2
          replace hx450_3 := (HB.out.cell (World.block_lt_of_cell? w _ hx450_3)).trans hx450_3
          replace hx450_4 := (HB.out.cell (World.block_lt_of_cell? w _ hx450_4)).trans hx450_4
          replace p450 := eq_true p450
          replace q450 := eq_true q450
          go_wp2_with (first | ((with_reducible refine gate_dst (N := 7) rfl ?_); (try (refine gate_guard (by rfl) ?_; dsimp only)); refine bx_ 7 #[.int .i64 0, .int .i64 0, .int .i64 0, .int .i64 0, .int .i64 0] 42 ?_; intro gb451 hg w34 BK451 hb; have GW451 := bg_ hg; have GE451 := GW451; replace HO_3 := Aside0.mk (Kd.R_below (by (with_reducible repeat (first | apply Kd.R_alloc | apply Kd.R_drewN | apply Kd.R_drew)); exact HO_3.out) hb); replace HO_5 := Aside0.mk (Kd.R_below (by (with_reducible repeat (first | apply Kd.R_alloc | apply Kd.R_drewN | apply Kd.R_drew)); exact HO_5.out) hb); replace HB := bl_ hb; clear hb hg; obtain ⟨zc35_0, zc35_1, zc35_2, zc35_3, zc35_4, zf35_0, zf35_1, zf35_2, zf35_3, zf35_4⟩ := k5_ BK451) | (go_at_call 9; (with_reducible refine (lockgatelaw06_works.calls k1  t452 _ A33.out).mono ?_); rintro e w36 ⟨rfl, hb⟩; have n0_ := Aside0.mk (Kd.R_below (by (with_reducible repeat (first | apply Kd.R_alloc | apply Kd.R_drewN | apply Kd.R_drew)); exact (Kd.R_mono (Kd.R_far (p := ⟨gb451, 4, none⟩) (Kd.R_far (p := ⟨gb451, 3, none⟩) (Kd.R_far (p := ⟨gb451, 2, none⟩) (Kd.R_far (p := ⟨gb451, 1, none⟩) (Kd.R_far (p := ⟨gb451, 0, none⟩) (Kd.R_types HO_3.out BK451.out (by decide)) (fun _ hk => hk.2) (.int .i64 ((rd_T42 l0 (ji29)).f0))) (fun _ hk => hk.2) (.int .i64 ((rd_T42 l0 (ji29)).f1))) (fun _ hk => hk.2) (.int .i64 ((rd_T42 l0 (ji29)).f2))) (fun _ hk => hk.2) (.int .i64 ((rd_T42 l0 (ji29)).f3))) (fun _ hk => hk.2) (.int .i64 ((rd_T42 l0 (ji29)).f4))) (fun _ h_ => h_.1))) hb); have n1_ := Aside0.mk (Kd.R_below (by (with_reducible repeat (first | apply Kd.R_alloc | apply Kd.R_drewN | apply Kd.R_drew)); exact (Kd.R_mono (Kd.R_far (p := ⟨gb451, 4, none⟩) (Kd.R_far (p := ⟨gb451, 3, none⟩) (Kd.R_far (p := ⟨gb451, 2, none⟩) (Kd.R_far (p := ⟨gb451, 1, none⟩) (Kd.R_far (p := ⟨gb451, 0, none⟩) (Kd.R_types HO_5.out BK451.out (by decide)) (fun _ hk => hk.2) (.int .i64 ((rd_T42 l0 (ji29)).f0))) (fun _ hk => hk.2) (.int .i64 ((rd_T42 l0 (ji29)).f1))) (fun _ hk => hk.2) (.int .i64 ((rd_T42 l0 (ji29)).f2))) (fun _ hk => hk.2) (.int .i64 ((rd_T42 l0 (ji29)).f3))) (fun _ hk => hk.2) (.int .i64 ((rd_T42 l0 (ji29)).f4))) (fun _ h_ => h_.1))) hb); have n2_ := Aside0.mk (blk_below (g := gb451) (o := .cells #[.int .i64 ((rd_T42 l0 (ji29)).f0), .int .i64 ((rd_T42 l0 (ji29)).f1), .int .i64 ((rd_T42 l0 (ji29)).f2), .int .i64 ((rd_T42 l0 (ji29)).f3), .int .i64 ((rd_T42 l0 (ji29)).f4)] 42 (0, 0)) (by (with_reducible repeat (first | apply bN_ | apply bD_ | apply bA_)); refine blk_put (cs := #[.int .i64 ((rd_T42 l0 (ji29)).f0), .int .i64 ((rd_T42 l0 (ji29)).f1), .int .i64 ((rd_T42 l0 (ji29)).f2), .int .i64 ((rd_T42 l0 (ji29)).f3), .int .i64 0]) ?_ 4 _ rfl; (with_reducible repeat (first | apply bN_ | apply bD_ | apply bA_)); refine blk_put (cs := #[.int .i64 ((rd_T42 l0 (ji29)).f0), .int .i64 ((rd_T42 l0 (ji29)).f1), .int .i64 ((rd_T42 l0 (ji29)).f2), .int .i64 0, .int .i64 0]) ?_ 3 _ rfl; (with_reducible repeat (first | apply bN_ | apply bD_ | apply bA_)); refine blk_put (cs := #[.int .i64 ((rd_T42 l0 (ji29)).f0), .int .i64 ((rd_T42 l0 (ji29)).f1), .int .i64 0, .int .i64 0, .int .i64 0]) ?_ 2 _ rfl; (with_reducible repeat (first | apply bN_ | apply bD_ | apply bA_)); refine blk_put (cs := #[.int .i64 ((rd_T42 l0 (ji29)).f0), .int .i64 0, .int .i64 0, .int .i64 0, .int .i64 0]) ?_ 1 _ rfl; (with_reducible repeat (first | apply bN_ | apply bD_ | apply bA_)); refine blk_put (cs := #[.int .i64 0, .int .i64 0, .int .i64 0, .int .i64 0, .int .i64 0]) ?_ 0 _ rfl; exact bk_) hb); have n3_ := bl_ hb; clear HO_3; clear HO_5; clear BK451; clear HB; have HO_3 := n0_; have HO_5 := n1_; have BK451 := n2_; have HB := n3_; clear n0_ n1_ n2_ n3_; (try clear hb); (try clear hb2); (try clear hk); (try clear hi)))
          go_ret
          exact ⟨by first | rfl | (simp [errW_none, errW_some] <;> rfl) | (simp only [← hji29]; first | rfl | (simp [errW_none, errW_some] <;> rfl)) | (simp [*, errW_none, errW_some] <;> rfl), bz_⟩
         ·rw [if_neg c32] at H
          have c32b0 : ((Go.bits .and .i64 ((rd_T42 l0 (ji29)).f0) 247) == 149) = false := beq_eq_false_iff_ne.mpr c32
          have c32b1 : ((Go.bits .and .i64 ((rd_T42 l0 (ji29)).f0) 247) != 149) = true := bne_iff_ne.mpr c32
          by_cases c37 : (Go.bits .and .i64 ((rd_T42 l0 (ji29)).f0) 247) = 5
          ·rw [if_pos c37] at H
           have c37b0 : ((Go.bits .and .i64 ((rd_T42 l0 (ji29)).f0) 247) == 5) = true := beq_iff_eq.mpr c37
           have c37b1 : ((Go.bits .and .i64 ((rd_T42 l0 (ji29)).f0) 247) != 5) = false := bne_eq_false_iff_eq.mpr c37
           clear c37
           replace H := Option.bind_eq_some_iff.mp H
           obtain ⟨t453, A380, H⟩ := H
           replace H : (some t453) = some r := H
           have A38 := Aside0.mk A380
           clear A380
           obtain rfl := Option.some.inj H
           have p450 : 0 ≤ ((ji29) : Int) := of_decide_eq_true (by first | (with_reducible assumption) | assumption)
           have q450 : (ji29) < (l0.length : Int) := of_decide_eq_true (by first | (with_reducible assumption) | assumption)
           obtain ⟨ad450, e450, hx450_0, hx450_1, hx450_2, hx450_3, hx450_4⟩ := at_T42 HR0.out (ji29) p450 q450
           cases e450
           replace hx450_0 := (HB.out.cell (World.block_lt_of_cell? w _ hx450_0)).trans hx450_0
           replace hx450_1 := (HB.out.cell (World.block_lt_of_cell? w _ hx450_1)).trans hx450_1
           replace hx450_2 := (HB.out.cell (World.block_lt_of_cell? w _ hx450_2)).trans hx450_2
           replace hx450_3 := (HB.out.cell (World.block_lt_of_cell? w _ hx450_3)).trans hx450_3
           replace hx450_4 := (HB.out.cell (World.block_lt_of_cell? w _ hx450_4)).trans hx450_4
           replace p450 := eq_true p450
           replace q450 := eq_true q450
           go_wp2_with (first | ((with_reducible refine gate_dst (N := 7) rfl ?_); (try (refine gate_guard (by rfl) ?_; dsimp only)); refine bx_ 7 #[.int .i64 0, .int .i64 0, .int .i64 0, .int .i64 0, .int .i64 0] 42 ?_; intro gb451 hg w39 BK451 hb; have GW451 := bg_ hg; have GE451 := GW451; replace HO_3 := Aside0.mk (Kd.R_below (by (with_reducible repeat (first | apply Kd.R_alloc | apply Kd.R_drewN | apply Kd.R_drew)); exact HO_3.out) hb); replace HO_5 := Aside0.mk (Kd.R_below (by (with_reducible repeat (first | apply Kd.R_alloc | apply Kd.R_drewN | apply Kd.R_drew)); exact HO_5.out) hb); replace HB := bl_ hb; clear hb hg; obtain ⟨zc40_0, zc40_1, zc40_2, zc40_3, zc40_4, zf40_0, zf40_1, zf40_2, zf40_3, zf40_4⟩ := k5_ BK451) | (go_at_call 9; (with_reducible refine (lockgatelaw06_works.calls k1  t453 _ A38.out).mono ?_); rintro e w41 ⟨rfl, hb⟩; have n0_ := Aside0.mk (Kd.R_below (by (with_reducible repeat (first | apply Kd.R_alloc | apply Kd.R_drewN | apply Kd.R_drew)); exact (Kd.R_mono (Kd.R_far (p := ⟨gb451, 4, none⟩) (Kd.R_far (p := ⟨gb451, 3, none⟩) (Kd.R_far (p := ⟨gb451, 2, none⟩) (Kd.R_far (p := ⟨gb451, 1, none⟩) (Kd.R_far (p := ⟨gb451, 0, none⟩) (Kd.R_types HO_3.out BK451.out (by decide)) (fun _ hk => hk.2) (.int .i64 ((rd_T42 l0 (ji29)).f0))) (fun _ hk => hk.2) (.int .i64 ((rd_T42 l0 (ji29)).f1))) (fun _ hk => hk.2) (.int .i64 ((rd_T42 l0 (ji29)).f2))) (fun _ hk => hk.2) (.int .i64 ((rd_T42 l0 (ji29)).f3))) (fun _ hk => hk.2) (.int .i64 ((rd_T42 l0 (ji29)).f4))) (fun _ h_ => h_.1))) hb); have n1_ := Aside0.mk (Kd.R_below (by (with_reducible repeat (first | apply Kd.R_alloc | apply Kd.R_drewN | apply Kd.R_drew)); exact (Kd.R_mono (Kd.R_far (p := ⟨gb451, 4, none⟩) (Kd.R_far (p := ⟨gb451, 3, none⟩) (Kd.R_far (p := ⟨gb451, 2, none⟩) (Kd.R_far (p := ⟨gb451, 1, none⟩) (Kd.R_far (p := ⟨gb451, 0, none⟩) (Kd.R_types HO_5.out BK451.out (by decide)) (fun _ hk => hk.2) (.int .i64 ((rd_T42 l0 (ji29)).f0))) (fun _ hk => hk.2) (.int .i64 ((rd_T42 l0 (ji29)).f1))) (fun _ hk => hk.2) (.int .i64 ((rd_T42 l0 (ji29)).f2))) (fun _ hk => hk.2) (.int .i64 ((rd_T42 l0 (ji29)).f3))) (fun _ hk => hk.2) (.int .i64 ((rd_T42 l0 (ji29)).f4))) (fun _ h_ => h_.1))) hb); have n2_ := Aside0.mk (blk_below (g := gb451) (o := .cells #[.int .i64 ((rd_T42 l0 (ji29)).f0), .int .i64 ((rd_T42 l0 (ji29)).f1), .int .i64 ((rd_T42 l0 (ji29)).f2), .int .i64 ((rd_T42 l0 (ji29)).f3), .int .i64 ((rd_T42 l0 (ji29)).f4)] 42 (0, 0)) (by (with_reducible repeat (first | apply bN_ | apply bD_ | apply bA_)); refine blk_put (cs := #[.int .i64 ((rd_T42 l0 (ji29)).f0), .int .i64 ((rd_T42 l0 (ji29)).f1), .int .i64 ((rd_T42 l0 (ji29)).f2), .int .i64 ((rd_T42 l0 (ji29)).f3), .int .i64 0]) ?_ 4 _ rfl; (with_reducible repeat (first | apply bN_ | apply bD_ | apply bA_)); refine blk_put (cs := #[.int .i64 ((rd_T42 l0 (ji29)).f0), .int .i64 ((rd_T42 l0 (ji29)).f1), .int .i64 ((rd_T42 l0 (ji29)).f2), .int .i64 0, .int .i64 0]) ?_ 3 _ rfl; (with_reducible repeat (first | apply bN_ | apply bD_ | apply bA_)); refine blk_put (cs := #[.int .i64 ((rd_T42 l0 (ji29)).f0), .int .i64 ((rd_T42 l0 (ji29)).f1), .int .i64 0, .int .i64 0, .int .i64 0]) ?_ 2 _ rfl; (with_reducible repeat (first | apply bN_ | apply bD_ | apply bA_)); refine blk_put (cs := #[.int .i64 ((rd_T42 l0 (ji29)).f0), .int .i64 0, .int .i64 0, .int .i64 0, .int .i64 0]) ?_ 1 _ rfl; (with_reducible repeat (first | apply bN_ | apply bD_ | apply bA_)); refine blk_put (cs := #[.int .i64 0, .int .i64 0, .int .i64 0, .int .i64 0, .int .i64 0]) ?_ 0 _ rfl; exact bk_) hb); have n3_ := bl_ hb; clear HO_3; clear HO_5; clear BK451; clear HB; have HO_3 := n0_; have HO_5 := n1_; have BK451 := n2_; have HB := n3_; clear n0_ n1_ n2_ n3_; (try clear hb); (try clear hb2); (try clear hk); (try clear hi)))
           go_ret
           exact ⟨by first | rfl | (simp [errW_none, errW_some] <;> rfl) | (simp only [← hji29]; first | rfl | (simp [errW_none, errW_some] <;> rfl)) | (simp [*, errW_none, errW_some] <;> rfl), bz_⟩
          ·rw [if_neg c37] at H
           have c37b0 : ((Go.bits .and .i64 ((rd_T42 l0 (ji29)).f0) 247) == 5) = false := beq_eq_false_iff_ne.mpr c37
           have c37b1 : ((Go.bits .and .i64 ((rd_T42 l0 (ji29)).f0) 247) != 5) = true := bne_iff_ne.mpr c37
           exact absurd ((Option.some.inj H).trans HRT.out) (by decide)
        ·rw [if_neg c31] at H
         exact absurd H (by simp)
       ·rw [if_neg c30] at H
        exact absurd H (by simp)
   ·rw [if_neg c7] at H
    have c7b0 : ((t433.length : Int) == (l0.length : Int)) = false := beq_eq_false_iff_ne.mpr c7
    have c7b1 : ((t433.length : Int) != (l0.length : Int)) = true := bne_iff_ne.mpr c7
    have c7b2 : (t433.length == l0.length) = false := by first | simpa using c7 | (simp at c7 ⊢; omega)
    exact absurd ((Option.some.inj H).trans HRT.out) (by decide)
  ·rw [if_neg c6] at H
   have c6b0 : (t434 == 0) = false := beq_eq_false_iff_ne.mpr c6
   have c6b1 : (t434 != 0) = true := bne_iff_ne.mpr c6
   by_cases c42 : ((t434 == 2) == ((l0.length : Int) == 0)) = true
   ·rw [if_pos c42] at H
    have c42b0 : ((t434 == 2) == ((l0.length : Int) == 0)) = true := c42
    (try (have c42b1 : decide ((t434 == 2) = ((l0.length : Int) == 0)) = true := by simpa using c42))
    (try (have c42b2 : ((t434 == 2) == ((l0.length : Int) == 0)) = true := by simpa using c42))
    clear c42
    by_cases c43 : ((t434 == 9) == (decide ((l0.length : Int) > 256))) = true
    ·rw [if_pos c43] at H
     have c43b0 : ((t434 == 9) == (decide ((l0.length : Int) > 256))) = true := c43
     (try (have c43b1 : decide ((t434 == 9) = (decide ((l0.length : Int) > 256))) = true := by simpa using c43))
     (try (have c43b2 : ((t434 == 9) == (decide ((l0.length : Int) > 256))) = true := by simpa using c43))
     clear c43
     by_cases c44 : (t433.length : Int) = 0
     ·rw [if_pos c44] at H
      have c44b0 : ((t433.length : Int) == 0) = true := beq_iff_eq.mpr c44
      have c44b1 : ((t433.length : Int) != 0) = false := bne_eq_false_iff_eq.mpr c44
      clear c44
      replace H := Option.bind_eq_some_iff.mp H
      obtain ⟨t440, A450, H⟩ := H
      replace H : (some t440) = some r := H
      have A45 := Aside0.mk A450
      clear A450
      obtain rfl := Option.some.inj H
      go_enter Try.func4, Try.ntmps4
      go_wp2_with (first | ((with_reducible refine gate_callee (f := 8) rfl ?_); refine goesL_ (some 9) rfl rfl Try.func8 (by kernel_rfl) rfl #[.slice A0 l0.length c0] rfl mp_ ?_; (with_reducible refine (lockgatelaw06_right.calls k _ _ l0 true _ ?side1 ?side2 A2.out).mono ?_); (case side1 => repeat (first | exact HR0.out | (with_reducible refine Kd.C_alloc ?_ _) | (with_reducible refine Kd.C_drewN ?_ _) | (with_reducible refine Kd.C_drew ?_))); (case side2 => exact HC0.out); rintro e w' ⟨rfl, ⟨nd, rfl⟩⟩; refine ⟨_, rfl, ?_⟩) | ((with_reducible refine gate_callee (f := 11) rfl ?_); refine goesL_ (some 14) rfl rfl Try.func11 (by kernel_rfl) rfl #[.slice A0 l0.length c0] rfl mp_ ?_; (with_reducible refine (flow_Targets.calls k _ _ l0 t433 t434 _ ?side1 ?side2 A4.out).mono ?_); (case side1 => repeat (first | exact HR0.out | (with_reducible refine Kd.C_alloc ?_ _) | (with_reducible refine Kd.C_drewN ?_ _) | (with_reducible refine Kd.C_drew ?_))); (case side2 => exact HC0.out); rintro e w46 ⟨v435, rfl, ho0, hb⟩; refine ⟨_, rfl, ?_⟩; have HO436 := Aside0.mk (Kd.R_lower ho0 (below_size bz_)); replace HB := bl_ hb; (try clear hb); (try clear hb2); (try clear hk); (try clear hi); (try clear ho0)) | ((with_reducible refine gate_callee (f := 25) rfl ?_); refine goesL_ (some 18) rfl rfl Try.func25 (by kernel_rfl) rfl #[.slice A0 l0.length c0] rfl mp_ ?_; (with_reducible refine (lockgatelaw06_slots.calls k _ _ l0 t437 _ ?side1 ?side2 A5.out).mono ?_); (case side1 => repeat (first | exact (Kd.C_below HR0.out HB.out) | (with_reducible refine Kd.C_alloc ?_ _) | (with_reducible refine Kd.C_drewN ?_ _) | (with_reducible refine Kd.C_drew ?_))); (case side2 => exact HC0.out); rintro e w47 ⟨v438, rfl, ho0, hb⟩; refine ⟨_, rfl, ?_⟩; have n0_ := Aside0.mk (Kd.R_elder' (by (with_reducible repeat (first | apply Kd.R_alloc | apply Kd.R_drewN | apply Kd.R_drew)); exact HO436.out) (Kd.R_base ho0) hb); have n1_ := Aside0.mk (Kd.R_lower (Kd.R_new' ho0 (Kd.R_lt (by (with_reducible repeat (first | apply Kd.R_alloc | apply Kd.R_drewN | apply Kd.R_drew)); exact HO436.out))) (below_size bz_)); have n2_ := bl_ hb; clear HO436; clear HB; have HO436 := n0_; have HO439 := n1_; have HB := n2_; clear n0_ n1_ n2_; (try clear hb); (try clear hb2); (try clear hk); (try clear hi); (try clear ho0); obtain ⟨Ao48, co48, eo48⟩ := Kd.R_slice HO436.out; subst eo48) | (go_at_call 9; (with_reducible refine (lockgatelaw06_works.calls k  t440 _ A45.out).mono ?_); rintro e w49 ⟨rfl, hb⟩; replace HO436 := Aside0.mk (Kd.R_below (by (with_reducible repeat (first | apply Kd.R_alloc | apply Kd.R_drewN | apply Kd.R_drew)); exact HO436.out) hb); replace HO439 := Aside0.mk (Kd.R_below (by (with_reducible repeat (first | apply Kd.R_alloc | apply Kd.R_drewN | apply Kd.R_drew)); exact HO439.out) hb); replace HB := bl_ hb; (try clear hb); (try clear hb2); (try clear hk); (try clear hi)))
      go_ret
      exact ⟨vv_, bz_⟩
     ·rw [if_neg c44] at H
      have c44b0 : ((t433.length : Int) == 0) = false := beq_eq_false_iff_ne.mpr c44
      have c44b1 : ((t433.length : Int) != 0) = true := bne_iff_ne.mpr c44
      have c44b2 : ¬ (t433 = []) := fun h_ => c44 (by rw [h_]; rfl)
      exact absurd ((Option.some.inj H).trans HRT.out) (by decide)
    ·rw [if_neg c43] at H
     have c43b0 : ((t434 == 9) == (decide ((l0.length : Int) > 256))) = false := by simpa using c43
     (try (have c43b1 : decide ((t434 == 9) = (decide ((l0.length : Int) > 256))) = false := by simpa using c43))
     (try (have c43b2 : ((t434 == 9) == (decide ((l0.length : Int) > 256))) = false := by simpa using c43))
     (try (have c43b3 : ¬ ((t434 == 9) = (decide ((l0.length : Int) > 256))) := by simpa using c43))
     clear c43
     exact absurd ((Option.some.inj H).trans HRT.out) (by decide)
   ·rw [if_neg c42] at H
    have c42b0 : ((t434 == 2) == ((l0.length : Int) == 0)) = false := by simpa using c42
    (try (have c42b1 : decide ((t434 == 2) = ((l0.length : Int) == 0)) = false := by simpa using c42))
    (try (have c42b2 : ((t434 == 2) == ((l0.length : Int) == 0)) = false := by simpa using c42))
    (try (have c42b3 : ¬ ((t434 == 2) = ((l0.length : Int) == 0)) := by simpa using c42))
    clear c42
    exact absurd ((Option.some.inj H).trans HRT.out) (by decide)
 ·replace c3 := Bool.eq_false_iff.mpr c3
  subst c3
  have H1 : ((lockgatelaw06_works.f k).bind fun t432 => (some t432)) = some r := by rw [if_neg (show ¬ (false = true) by decide)] at H; exact H
  clear H
  have H := H1
  clear H1
  replace H := Option.bind_eq_some_iff.mp H
  obtain ⟨t432, A500, H⟩ := H
  replace H : (some t432) = some r := H
  have A50 := Aside0.mk A500
  clear A500
  obtain rfl := Option.some.inj H
  go_enter Try.func4, Try.ntmps4
  go_wp2_with (first | ((with_reducible refine gate_callee (f := 8) rfl ?_); refine goesL_ (some 9) rfl rfl Try.func8 (by kernel_rfl) rfl #[.slice A0 l0.length c0] rfl mp_ ?_; (with_reducible refine (lockgatelaw06_right.calls k _ _ l0 false _ ?side1 ?side2 A2.out).mono ?_); (case side1 => repeat (first | exact HR0.out | (with_reducible refine Kd.C_alloc ?_ _) | (with_reducible refine Kd.C_drewN ?_ _) | (with_reducible refine Kd.C_drew ?_))); (case side2 => exact HC0.out); rintro e w' ⟨rfl, ⟨nd, rfl⟩⟩; refine ⟨_, rfl, ?_⟩) | ((with_reducible refine gate_callee (f := 9) rfl ?_); refine gM_ 11 Try.func9 (lockgatelaw06_works.calls k  t432 _ A50.out) ?_; intro w51 hb; replace HB := bl_ hb; (try clear hb); (try clear hb2); (try clear hk); (try clear hi)))
  go_ret
  exact ⟨vv_, bz_⟩

end Go.Proofs.Ytkcneaaoghgllaa.PA
