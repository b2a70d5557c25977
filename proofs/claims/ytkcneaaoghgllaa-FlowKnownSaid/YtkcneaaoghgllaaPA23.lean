-- PRINTED by print.py (a twelfth state) out of the translation. Not trusted: Lean checks it.
import Derived.Test.YtkcneaaoghgllaaWGuard
import Derived.Test.YtkcneaaoghgllaaPA0
import Derived.Test.YtkcneaaoghgllaaSq
import Derived.Test.YtkcneaaoghgllaaPA4
import Derived.Test.YtkcneaaoghgllaaPA6
import Derived.Test.YtkcneaaoghgllaaPA10
import Derived.Test.YtkcneaaoghgllaaPA17
namespace Go.Proofs.Ytkcneaaoghgllaa.PA
open Go.RowKit Go.Proofs.YtkcneaaoghgllaaW.PrintWords Go.Proofs.YtkcneaaoghgllaaW.PrintLast Go.Proofs.YtkcneaaoghgllaaW.PrintMore
attribute [local go_sem] max2_int min2_int max_two min_two max_three min_three max_four min_four   -- for this text's walks alone
set_option linter.unusedVariables false
set_option linter.unusedSimpArgs false

/-! ### lockgatelaw06_FlowMoved: function 6 -/
mutual
def lockgatelaw06_FlowMoved.j0 : Nat → List (S42) → Int → Bool → Option (Bool)
 | 0, _, _, _ => none
 | k + 1, x0, x1, x22 => if x22 = true then ((lockgatelaw06_works.f k).bind fun t494 => (some t494)) else ((lockgatekit_Pick.f x1 41).bind fun t495 => (lockgatelaw06_FlowMoved.l0 k x0 t495 ([] : List (S42)) 0))
def lockgatelaw06_FlowMoved.l0 : Nat → List (S42) → Int → List (S42) → Int → Option (Bool)
 | 0, _, _, _, _ => none
 | k + 1, x0, x1, x5, x6 => if x6 < x1 then (if x5.length < 3518437208883 then (lockgatelaw06_FlowMoved.l0 k x0 x1 (x5 ++ [(⟨183, 0, 0, 0, x6⟩ : S42)]) (wrap64 (x6 + 1))) else (none)) else (lockgatelaw06_FlowMoved.l1 k x0 x1 x5 0)
def lockgatelaw06_FlowMoved.l1 : Nat → List (S42) → Int → List (S42) → Int → Option (Bool)
 | 0, _, _, _, _ => none
 | k + 1, x0, x1, x5, x7 => if x7 < (x0.length : Int) then (if 0 ≤ x7 then (if x5.length < 3518437208883 then (lockgatelaw06_FlowMoved.l1 k x0 x1 (x5 ++ [(⟨(rd_T42 x0 x7).f0, (rd_T42 x0 x7).f1, (rd_T42 x0 x7).f2, (rd_T42 x0 x7).f3, (rd_T42 x0 x7).f4⟩ : S42)]) (wrap64 (x7 + 1))) else (none)) else (none)) else ((flow_Targets.f k x0).bind fun bt503 => ((flow_Targets.f k x5).bind fun bt507 => (if bt503.2 = 0 then (if bt507.2 = 0 then (lockgatelaw06_FlowMoved.j3 k x0 x1 x5 bt503.1 bt507.1 ((bt507.1.length : Int) != (wrap64 (x1 + (bt503.1.length : Int))))) else (lockgatelaw06_FlowMoved.j3 k x0 x1 x5 bt503.1 bt507.1 true)) else ((lockgatelaw06_works.f k).bind fun t511 => (some t511)))))
def lockgatelaw06_FlowMoved.j3 : Nat → List (S42) → Int → List (S42) → List Int → List Int → Bool → Option (Bool)
 | 0, _, _, _, _, _, _ => none
 | k + 1, x0, x1, x5, x8, x10, x72 => if x72 = true then (some false) else ((flow_Reached.f k x0 x8).bind fun t512 => ((flow_Reached.f k x5 x10).bind fun t515 => (lockgatelaw06_FlowMoved.l2 k x1 x8 x10 t512 t515 0)))
def lockgatelaw06_FlowMoved.l2 : Nat → Int → List Int → List Int → List Bool → List Bool → Int → Option (Bool)
 | 0, _, _, _, _, _, _ => none
 | k + 1, x1, x8, x10, x12, x13, x14 => if x14 < (x8.length : Int) then (if 0 ≤ x14 then (if (rd x8 x14) < 0 then (if 0 ≤ (wrap64 (x1 + x14)) then (if (wrap64 (x1 + x14)) < (x10.length : Int) then (if (rd x10 (wrap64 (x1 + x14))) = (-1) then (if (rd x8 x14) ≥ 0 then (if (rd x10 (wrap64 (x1 + x14))) = (wrap64 ((rd x8 x14) + x1)) then (if x14 < (x12.length : Int) then (if (wrap64 (x1 + x14)) < (x13.length : Int) then (if ((rdOf false x12 x14) != (rdOf false x13 (wrap64 (x1 + x14)))) = true then (some false) else (lockgatelaw06_FlowMoved.l2 k x1 x8 x10 x12 x13 (wrap64 (x14 + 1)))) else (none)) else (none)) else (some false)) else (if x14 < (x12.length : Int) then (if (wrap64 (x1 + x14)) < (x13.length : Int) then (if ((rdOf false x12 x14) != (rdOf false x13 (wrap64 (x1 + x14)))) = true then (some false) else (lockgatelaw06_FlowMoved.l2 k x1 x8 x10 x12 x13 (wrap64 (x14 + 1)))) else (none)) else (none))) else (some false)) else (none)) else (none)) else (if (rd x8 x14) ≥ 0 then (if 0 ≤ (wrap64 (x1 + x14)) then (if (wrap64 (x1 + x14)) < (x10.length : Int) then (if (rd x10 (wrap64 (x1 + x14))) = (wrap64 ((rd x8 x14) + x1)) then (if x14 < (x12.length : Int) then (if (wrap64 (x1 + x14)) < (x13.length : Int) then (if ((rdOf false x12 x14) != (rdOf false x13 (wrap64 (x1 + x14)))) = true then (some false) else (lockgatelaw06_FlowMoved.l2 k x1 x8 x10 x12 x13 (wrap64 (x14 + 1)))) else (none)) else (none)) else (some false)) else (none)) else (none)) else (if x14 < (x12.length : Int) then (if 0 ≤ (wrap64 (x1 + x14)) then (if (wrap64 (x1 + x14)) < (x13.length : Int) then (if ((rdOf false x12 x14) != (rdOf false x13 (wrap64 (x1 + x14)))) = true then (some false) else (lockgatelaw06_FlowMoved.l2 k x1 x8 x10 x12 x13 (wrap64 (x14 + 1)))) else (none)) else (none)) else (none)))) else (none)) else ((lockgatelaw06_works.f k).bind fun t534 => (some t534))
end
def lockgatelaw06_FlowMoved.f (k : Nat) (l0 : List (S42)) (a1 : Int) : Option (Bool) := (lockgatelaw06_right.f k l0).bind fun t493 => (if t493 = true then (lockgatelaw06_FlowMoved.j0 k l0 a1 (decide ((l0.length : Int) > 200))) else (lockgatelaw06_FlowMoved.j0 k l0 a1 true))
theorem lockgatelaw06_FlowMoved.mono_l : ∀ k, (∀ y0 y1 y2, LeO (lockgatelaw06_FlowMoved.j0 k y0 y1 y2) (lockgatelaw06_FlowMoved.j0 (k + 1) y0 y1 y2)) ∧ (∀ y0 y1 y2 y3, LeO (lockgatelaw06_FlowMoved.l0 k y0 y1 y2 y3) (lockgatelaw06_FlowMoved.l0 (k + 1) y0 y1 y2 y3)) ∧ (∀ y0 y1 y2 y3, LeO (lockgatelaw06_FlowMoved.l1 k y0 y1 y2 y3) (lockgatelaw06_FlowMoved.l1 (k + 1) y0 y1 y2 y3)) ∧ (∀ y0 y1 y2 y3 y4 y5, LeO (lockgatelaw06_FlowMoved.j3 k y0 y1 y2 y3 y4 y5) (lockgatelaw06_FlowMoved.j3 (k + 1) y0 y1 y2 y3 y4 y5)) ∧ (∀ y0 y1 y2 y3 y4 y5, LeO (lockgatelaw06_FlowMoved.l2 k y0 y1 y2 y3 y4 y5) (lockgatelaw06_FlowMoved.l2 (k + 1) y0 y1 y2 y3 y4 y5))
 | 0 => ⟨fun _ _ _ r h => by simp [lockgatelaw06_FlowMoved.j0] at h, fun _ _ _ _ r h => by simp [lockgatelaw06_FlowMoved.l0] at h, fun _ _ _ _ r h => by simp [lockgatelaw06_FlowMoved.l1] at h, fun _ _ _ _ _ _ r h => by simp [lockgatelaw06_FlowMoved.j3] at h, fun _ _ _ _ _ _ r h => by simp [lockgatelaw06_FlowMoved.l2] at h⟩
 | k + 1 => by
  obtain ⟨ih0, ih1, ih2, ih3, ih4⟩ := lockgatelaw06_FlowMoved.mono_l k
  refine ⟨?_, ?_, ?_, ?_, ?_⟩
  ·intro y0 y1 y2
   unfold lockgatelaw06_FlowMoved.j0
   repeat' first
   | (with_reducible exact ih0 _ _ _)
   | (with_reducible exact ih1 _ _ _ _)
   | (with_reducible exact ih2 _ _ _ _)
   | (with_reducible exact ih3 _ _ _ _ _ _)
   | (with_reducible exact ih4 _ _ _ _ _ _)
   | (with_reducible exact flow_Reached.mono _ _ _)
   | (with_reducible exact flow_Targets.mono _ _)
   | (with_reducible exact lockgatelaw06_right.mono _ _)
   | (with_reducible exact lockgatelaw06_works.mono _)
   | (with_reducible exact LeO.refl _)
   | (with_reducible exact LeO.none _)
   | (with_reducible refine LeO.ite ?_ ?_)
   | (with_reducible refine LeO.bind ?_ (fun _ => ?_))
   | exact ih0 _ _ _
   | exact ih1 _ _ _ _
   | exact ih2 _ _ _ _
   | exact ih3 _ _ _ _ _ _
   | exact ih4 _ _ _ _ _ _
   | exact flow_Reached.mono _ _ _
   | exact flow_Targets.mono _ _
   | exact lockgatelaw06_right.mono _ _
   | exact lockgatelaw06_works.mono _
   | exact LeO.none _
   | refine LeO.ite ?_ ?_
   | refine LeO.bind ?_ (fun _ => ?_)
  ·intro y0 y1 y2 y3
   unfold lockgatelaw06_FlowMoved.l0
   repeat' first
   | (with_reducible exact ih0 _ _ _)
   | (with_reducible exact ih1 _ _ _ _)
   | (with_reducible exact ih2 _ _ _ _)
   | (with_reducible exact ih3 _ _ _ _ _ _)
   | (with_reducible exact ih4 _ _ _ _ _ _)
   | (with_reducible exact flow_Reached.mono _ _ _)
   | (with_reducible exact flow_Targets.mono _ _)
   | (with_reducible exact lockgatelaw06_right.mono _ _)
   | (with_reducible exact lockgatelaw06_works.mono _)
   | (with_reducible exact LeO.refl _)
   | (with_reducible exact LeO.none _)
   | (with_reducible refine LeO.ite ?_ ?_)
   | (with_reducible refine LeO.bind ?_ (fun _ => ?_))
   | exact ih0 _ _ _
   | exact ih1 _ _ _ _
   | exact ih2 _ _ _ _
   | exact ih3 _ _ _ _ _ _
   | exact ih4 _ _ _ _ _ _
   | exact flow_Reached.mono _ _ _
   | exact flow_Targets.mono _ _
   | exact lockgatelaw06_right.mono _ _
   | exact lockgatelaw06_works.mono _
   | exact LeO.none _
   | refine LeO.ite ?_ ?_
   | refine LeO.bind ?_ (fun _ => ?_)
  ·intro y0 y1 y2 y3
   unfold lockgatelaw06_FlowMoved.l1
   repeat' first
   | (with_reducible exact ih0 _ _ _)
   | (with_reducible exact ih1 _ _ _ _)
   | (with_reducible exact ih2 _ _ _ _)
   | (with_reducible exact ih3 _ _ _ _ _ _)
   | (with_reducible exact ih4 _ _ _ _ _ _)
   | (with_reducible exact flow_Reached.mono _ _ _)
   | (with_reducible exact flow_Targets.mono _ _)
   | (with_reducible exact lockgatelaw06_right.mono _ _)
   | (with_reducible exact lockgatelaw06_works.mono _)
   | (with_reducible exact LeO.refl _)
   | (with_reducible exact LeO.none _)
   | (with_reducible refine LeO.ite ?_ ?_)
   | (with_reducible refine LeO.bind ?_ (fun _ => ?_))
   | exact ih0 _ _ _
   | exact ih1 _ _ _ _
   | exact ih2 _ _ _ _
   | exact ih3 _ _ _ _ _ _
   | exact ih4 _ _ _ _ _ _
   | exact flow_Reached.mono _ _ _
   | exact flow_Targets.mono _ _
   | exact lockgatelaw06_right.mono _ _
   | exact lockgatelaw06_works.mono _
   | exact LeO.none _
   | refine LeO.ite ?_ ?_
   | refine LeO.bind ?_ (fun _ => ?_)
  ·intro y0 y1 y2 y3 y4 y5
   unfold lockgatelaw06_FlowMoved.j3
   repeat' first
   | (with_reducible exact ih0 _ _ _)
   | (with_reducible exact ih1 _ _ _ _)
   | (with_reducible exact ih2 _ _ _ _)
   | (with_reducible exact ih3 _ _ _ _ _ _)
   | (with_reducible exact ih4 _ _ _ _ _ _)
   | (with_reducible exact flow_Reached.mono _ _ _)
   | (with_reducible exact flow_Targets.mono _ _)
   | (with_reducible exact lockgatelaw06_right.mono _ _)
   | (with_reducible exact lockgatelaw06_works.mono _)
   | (with_reducible exact LeO.refl _)
   | (with_reducible exact LeO.none _)
   | (with_reducible refine LeO.ite ?_ ?_)
   | (with_reducible refine LeO.bind ?_ (fun _ => ?_))
   | exact ih0 _ _ _
   | exact ih1 _ _ _ _
   | exact ih2 _ _ _ _
   | exact ih3 _ _ _ _ _ _
   | exact ih4 _ _ _ _ _ _
   | exact flow_Reached.mono _ _ _
   | exact flow_Targets.mono _ _
   | exact lockgatelaw06_right.mono _ _
   | exact lockgatelaw06_works.mono _
   | exact LeO.none _
   | refine LeO.ite ?_ ?_
   | refine LeO.bind ?_ (fun _ => ?_)
  ·intro y0 y1 y2 y3 y4 y5
   unfold lockgatelaw06_FlowMoved.l2
   repeat' first
   | (with_reducible exact ih0 _ _ _)
   | (with_reducible exact ih1 _ _ _ _)
   | (with_reducible exact ih2 _ _ _ _)
   | (with_reducible exact ih3 _ _ _ _ _ _)
   | (with_reducible exact ih4 _ _ _ _ _ _)
   | (with_reducible exact flow_Reached.mono _ _ _)
   | (with_reducible exact flow_Targets.mono _ _)
   | (with_reducible exact lockgatelaw06_right.mono _ _)
   | (with_reducible exact lockgatelaw06_works.mono _)
   | (with_reducible exact LeO.refl _)
   | (with_reducible exact LeO.none _)
   | (with_reducible refine LeO.ite ?_ ?_)
   | (with_reducible refine LeO.bind ?_ (fun _ => ?_))
   | exact ih0 _ _ _
   | exact ih1 _ _ _ _
   | exact ih2 _ _ _ _
   | exact ih3 _ _ _ _ _ _
   | exact ih4 _ _ _ _ _ _
   | exact flow_Reached.mono _ _ _
   | exact flow_Targets.mono _ _
   | exact lockgatelaw06_right.mono _ _
   | exact lockgatelaw06_works.mono _
   | exact LeO.none _
   | refine LeO.ite ?_ ?_
   | refine LeO.bind ?_ (fun _ => ?_)
theorem lockgatelaw06_FlowMoved.mono : ∀ a0 a1 k, LeO (lockgatelaw06_FlowMoved.f k a0 a1) (lockgatelaw06_FlowMoved.f (k + 1) a0 a1) := by
 intro a0 a1 k
 obtain ⟨ih0, ih1, ih2, ih3, ih4⟩ := lockgatelaw06_FlowMoved.mono_l k
 unfold lockgatelaw06_FlowMoved.f
 repeat' first
  | (with_reducible exact ih0 _ _ _)
  | (with_reducible exact ih1 _ _ _ _)
  | (with_reducible exact ih2 _ _ _ _)
  | (with_reducible exact ih3 _ _ _ _ _ _)
  | (with_reducible exact ih4 _ _ _ _ _ _)
  | (with_reducible exact flow_Reached.mono _ _ _)
  | (with_reducible exact flow_Targets.mono _ _)
  | (with_reducible exact lockgatelaw06_right.mono _ _)
  | (with_reducible exact lockgatelaw06_works.mono _)
  | (with_reducible exact LeO.refl _)
  | (with_reducible exact LeO.none _)
  | (with_reducible refine LeO.ite ?_ ?_)
  | (with_reducible refine LeO.bind ?_ (fun _ => ?_))
  | exact ih0 _ _ _
  | exact ih1 _ _ _ _
  | exact ih2 _ _ _ _
  | exact ih3 _ _ _ _ _ _
  | exact ih4 _ _ _ _ _ _
  | exact flow_Reached.mono _ _ _
  | exact flow_Targets.mono _ _
  | exact lockgatelaw06_right.mono _ _
  | exact lockgatelaw06_works.mono _
  | exact LeO.none _
  | refine LeO.ite ?_ ?_
  | refine LeO.bind ?_ (fun _ => ?_)
set_option maxHeartbeats 8000000 in
set_option maxRecDepth 100000 in
theorem lockgatelaw06_FlowMoved.calls (k : Nat) (A0 : Option Addr) (c0 : Nat) (l0 : List (S42)) (a1 : Int) (r : Bool) (w : World) (hr0 : Kd.C k42 w A0 l0.length l0) (hc0 : l0.length ≤ c0) (HRT : Aside0 (r = true)) (h : lockgatelaw06_FlowMoved.f k l0 a1 = some r) :
 Calls Try.prog 6 #[.slice A0 l0.length c0, .int .i64 a1] w fun e w' => e = .returned (.bool r) ∧ Below w.heap.size w w' := by
 have hu42 := Try.underlying42
 have HR0 := Aside0.mk hr0
 have HC0 := Aside0.mk hc0
 clear hr0 hc0
 have HB := Aside0.mk (Below.refl w.heap.size w)
 have H : ((lockgatelaw06_right.f k l0).bind fun t493 => (if t493 = true then (lockgatelaw06_FlowMoved.j0 k l0 a1 (decide ((l0.length : Int) > 200))) else (lockgatelaw06_FlowMoved.j0 k l0 a1 true))) = some r := h
 clear h
 have HC3 := Aside0.mk H
 clear H
 go_enter Try.func6, Try.ntmps6
 go_upto_region 1 with (fail)
 repeat (go_quiet (fail); go_upto_region 1 with (fail))
 go_cut [22] (fun v22 wc => ∃ (kq : Nat) (x22_2 : Bool), v22 = .bool x22_2 ∧ Aside0 (lockgatelaw06_FlowMoved.j0 kq l0 a1 x22_2 = some r) ∧ Aside0 (kq ≤ k) ∧ Aside0 (Below w.heap.size w wc))
 case first =>
  have H := HC3.out
  clear HC3
  replace H := Option.bind_eq_some_iff.mp H
  obtain ⟨t493, A40, H⟩ := H
  replace H : (if t493 = true then (lockgatelaw06_FlowMoved.j0 k l0 a1 (decide ((l0.length : Int) > 200))) else (lockgatelaw06_FlowMoved.j0 k l0 a1 true)) = some r := H
  have A4 := Aside0.mk A40
  clear A40
  by_cases c5 : t493 = true
  ·subst c5
   have H1 : (lockgatelaw06_FlowMoved.j0 k l0 a1 (decide ((l0.length : Int) > 200))) = some r := by rw [if_pos rfl] at H; exact H
   clear H
   have H := H1
   clear H1
   have H' := Aside0.mk H
   clear H
   go_wp2_with (first | (go_at_call 8; (with_reducible refine (lockgatelaw06_right.calls k _ _ l0 true _ ?side1 ?side2 A4.out).mono ?_); (case side1 => repeat (first | exact (Kd.C_below HR0.out HB.out) | (with_reducible refine Kd.C_alloc ?_ _) | (with_reducible refine Kd.C_drewN ?_ _) | (with_reducible refine Kd.C_drew ?_))); (case side2 => exact HC0.out); rintro e w' ⟨rfl, ⟨nd, rfl⟩⟩; (try first | exact ⟨rfl, _, World.drewN_drewN _ _ _⟩ | exact ⟨rfl, _, Eq.trans (World.drewN_drewN _ _ _) (congrArg (World.drewN _) (Nat.add_assoc _ _ _))⟩)))
   repeat (go_quiet (first | (go_at_call 8; (with_reducible refine (lockgatelaw06_right.calls k _ _ l0 true _ ?side1 ?side2 A4.out).mono ?_); (case side1 => repeat (first | exact (Kd.C_below HR0.out HB.out) | (with_reducible refine Kd.C_alloc ?_ _) | (with_reducible refine Kd.C_drewN ?_ _) | (with_reducible refine Kd.C_drew ?_))); (case side2 => exact HC0.out); rintro e w' ⟨rfl, ⟨nd, rfl⟩⟩; (try first | exact ⟨rfl, _, World.drewN_drewN _ _ _⟩ | exact ⟨rfl, _, Eq.trans (World.drewN_drewN _ _ _) (congrArg (World.drewN _) (Nat.add_assoc _ _ _))⟩))); try go_wp2_with (first | (go_at_call 8; (with_reducible refine (lockgatelaw06_right.calls k _ _ l0 true _ ?side1 ?side2 A4.out).mono ?_); (case side1 => repeat (first | exact (Kd.C_below HR0.out HB.out) | (with_reducible refine Kd.C_alloc ?_ _) | (with_reducible refine Kd.C_drewN ?_ _) | (with_reducible refine Kd.C_drew ?_))); (case side2 => exact HC0.out); rintro e w' ⟨rfl, ⟨nd, rfl⟩⟩; (try first | exact ⟨rfl, _, World.drewN_drewN _ _ _⟩ | exact ⟨rfl, _, Eq.trans (World.drewN_drewN _ _ _) (congrArg (World.drewN _) (Nat.add_assoc _ _ _))⟩))))
   go_meet
   case rel => exact ⟨_, (decide ((l0.length : Int) > 200)), (by first | rfl | (simp; done) | (simp [*]; done)), H', ⟨by first | omega | exact Nat.le_refl _⟩, ⟨bz_⟩⟩
  ·replace c5 := Bool.eq_false_iff.mpr c5
   subst c5
   have H1 : (lockgatelaw06_FlowMoved.j0 k l0 a1 true) = some r := by rw [if_neg (show ¬ (false = true) by decide)] at H; exact H
   clear H
   have H := H1
   clear H1
   have H' := Aside0.mk H
   clear H
   go_wp2_with (first | (go_at_call 8; (with_reducible refine (lockgatelaw06_right.calls k _ _ l0 false _ ?side1 ?side2 A4.out).mono ?_); (case side1 => repeat (first | exact (Kd.C_below HR0.out HB.out) | (with_reducible refine Kd.C_alloc ?_ _) | (with_reducible refine Kd.C_drewN ?_ _) | (with_reducible refine Kd.C_drew ?_))); (case side2 => exact HC0.out); rintro e w' ⟨rfl, ⟨nd, rfl⟩⟩; (try first | exact ⟨rfl, _, World.drewN_drewN _ _ _⟩ | exact ⟨rfl, _, Eq.trans (World.drewN_drewN _ _ _) (congrArg (World.drewN _) (Nat.add_assoc _ _ _))⟩)))
   repeat (go_quiet (first | (go_at_call 8; (with_reducible refine (lockgatelaw06_right.calls k _ _ l0 false _ ?side1 ?side2 A4.out).mono ?_); (case side1 => repeat (first | exact (Kd.C_below HR0.out HB.out) | (with_reducible refine Kd.C_alloc ?_ _) | (with_reducible refine Kd.C_drewN ?_ _) | (with_reducible refine Kd.C_drew ?_))); (case side2 => exact HC0.out); rintro e w' ⟨rfl, ⟨nd, rfl⟩⟩; (try first | exact ⟨rfl, _, World.drewN_drewN _ _ _⟩ | exact ⟨rfl, _, Eq.trans (World.drewN_drewN _ _ _) (congrArg (World.drewN _) (Nat.add_assoc _ _ _))⟩))); try go_wp2_with (first | (go_at_call 8; (with_reducible refine (lockgatelaw06_right.calls k _ _ l0 false _ ?side1 ?side2 A4.out).mono ?_); (case side1 => repeat (first | exact (Kd.C_below HR0.out HB.out) | (with_reducible refine Kd.C_alloc ?_ _) | (with_reducible refine Kd.C_drewN ?_ _) | (with_reducible refine Kd.C_drew ?_))); (case side2 => exact HC0.out); rintro e w' ⟨rfl, ⟨nd, rfl⟩⟩; (try first | exact ⟨rfl, _, World.drewN_drewN _ _ _⟩ | exact ⟨rfl, _, Eq.trans (World.drewN_drewN _ _ _) (congrArg (World.drewN _) (Nat.add_assoc _ _ _))⟩))))
   go_meet
   case rel => exact ⟨_, (true), (by first | rfl | (simp; done) | (simp [*]; done)), H', ⟨by first | omega | exact Nat.le_refl _⟩, ⟨bz_⟩⟩
 case rest =>
  clear HC3
  try clear p2
  try clear c5
  obtain ⟨kq, x22_2, rfl, HA, HJ2, HB⟩ := hcut
  cases kq with
  | zero => exact absurd HA.out (by simp [lockgatelaw06_FlowMoved.j0])
  | succ kj2 =>
   have H := HA.out
   clear HA
   simp only [lockgatelaw06_FlowMoved.j0] at H
   by_cases c6 : x22_2 = true
   ·subst c6
    have H1 : ((lockgatelaw06_works.f kj2).bind fun t494 => (some t494)) = some r := by rw [if_pos rfl] at H; exact H
    clear H
    have H := H1
    clear H1
    replace H := Option.bind_eq_some_iff.mp H
    obtain ⟨t494, A70, H⟩ := H
    replace H : (some t494) = some r := H
    have A7 := Aside0.mk A70
    clear A70
    obtain rfl := Option.some.inj H
    go_wp2_with (first | (go_at_call 9; (with_reducible refine (lockgatelaw06_works.calls kj2  t494 _ A7.out).mono ?_); rintro e w8 ⟨rfl, hb⟩; replace HB := bl_ hb; (try clear hb); (try clear hb2); (try clear hk); (try clear hi)))
    repeat (go_quiet (first | (go_at_call 9; (with_reducible refine (lockgatelaw06_works.calls kj2  t494 _ A7.out).mono ?_); rintro e w8 ⟨rfl, hb⟩; replace HB := bl_ hb; (try clear hb); (try clear hb2); (try clear hk); (try clear hi))); try go_wp2_with (first | (go_at_call 9; (with_reducible refine (lockgatelaw06_works.calls kj2  t494 _ A7.out).mono ?_); rintro e w8 ⟨rfl, hb⟩; replace HB := bl_ hb; (try clear hb); (try clear hb2); (try clear hk); (try clear hi))))
    go_ret
    exact ⟨vv_, bz_⟩
   ·replace c6 := Bool.eq_false_iff.mpr c6
    subst c6
    have H1 : ((lockgatekit_Pick.f a1 41).bind fun t495 => (lockgatelaw06_FlowMoved.l0 kj2 l0 t495 ([] : List (S42)) 0)) = some r := by rw [if_neg (show ¬ (false = true) by decide)] at H; exact H
    clear H
    have H := H1
    clear H1
    replace H := Option.bind_eq_some_iff.mp H
    obtain ⟨t495, A90, H⟩ := H
    replace H : (lockgatelaw06_FlowMoved.l0 kj2 l0 t495 ([] : List (S42)) 0) = some r := H
    have A9 := Aside0.mk A90
    clear A90
    have H' := Aside0.mk H
    clear H
    go_wp2_with (first | (go_at_call 27; (with_reducible refine (lockgatekit_Pick.calls a1 41 t495 _ A9.out).mono ?_); rintro e w' ⟨rfl, ⟨nd, rfl⟩⟩; (try first | exact ⟨rfl, _, World.drewN_drewN _ _ _⟩ | exact ⟨rfl, _, Eq.trans (World.drewN_drewN _ _ _) (congrArg (World.drewN _) (Nat.add_assoc _ _ _))⟩)))
    repeat (go_quiet (first | (go_at_call 27; (with_reducible refine (lockgatekit_Pick.calls a1 41 t495 _ A9.out).mono ?_); rintro e w' ⟨rfl, ⟨nd, rfl⟩⟩; (try first | exact ⟨rfl, _, World.drewN_drewN _ _ _⟩ | exact ⟨rfl, _, Eq.trans (World.drewN_drewN _ _ _) (congrArg (World.drewN _) (Nat.add_assoc _ _ _))⟩))); try go_wp2_with (first | (go_at_call 27; (with_reducible refine (lockgatekit_Pick.calls a1 41 t495 _ A9.out).mono ?_); rintro e w' ⟨rfl, ⟨nd, rfl⟩⟩; (try first | exact ⟨rfl, _, World.drewN_drewN _ _ _⟩ | exact ⟨rfl, _, Eq.trans (World.drewN_drewN _ _ _) (congrArg (World.drewN _) (Nat.add_assoc _ _ _))⟩))))
    go_loopg [5, 6] kj2 (fun kq v5 v6 w' => ∃ (x5_2 : List (S42)) (x6_2 : Int), v6 = .int .i64 x6_2 ∧ Aside0 (lockgatelaw06_FlowMoved.l0 kq l0 t495 x5_2 x6_2 = some r) ∧ Aside0 (kq ≤ kj2) ∧ Aside0 (Kd.R k42 42 w' w.heap.size (fun _ => True) v5 x5_2) ∧ Aside0 (Below w.heap.size w w'))
    case atStart => exact ⟨(([] : List (S42))), (0), (by first | rfl | (simp; done) | (simp [*]; done)), H', ⟨Nat.le_refl _⟩, ⟨by first | exact Kd.R_nil _ _ _ _ _ | exact Kd.N_nil _ _ _ _ _ | exact Kd.V_nil _ _ _ _ _ | exact Kd.Q_nil _ _ _ _ _ | exact Kd.S_nil _ _ _ _ _⟩, ⟨bz_⟩⟩
    case round =>
     clear H'
     try clear p2
     try clear c5
     try clear c6
     try clear p2
     obtain ⟨x5_2, x6_2, rfl, HA, HK2, HO_5, HB⟩ := hrel
     cases gk with
     | zero => exact absurd HA.out (by simp [lockgatelaw06_FlowMoved.l0])
     | succ k2 =>
      have H := HA.out
      clear HA
      simp only [lockgatelaw06_FlowMoved.l0] at H
      by_cases c10 : x6_2 < t495
      ·rw [if_pos c10] at H
       have c10b0 : decide (x6_2 < t495) = true := decide_eq_true c10
       clear c10
       by_cases c11 : x5_2.length < 3518437208883
       ·rw [if_pos c11] at H
        have LMc11 := Aside0.mk c11
        clear c11
        obtain ⟨y496, hy496⟩ : ∃ y_ : List (S42), y_ = (x5_2 ++ [(⟨183, 0, 0, 0, x6_2⟩ : S42)]) := ⟨_, rfl⟩
        replace H : (lockgatelaw06_FlowMoved.l0 k2 l0 t495 y496 (wrap64 (x6_2 + 1))) = some r := by first | (rw [hy496]; with_reducible exact H) | (have H2_ := (Option.bind_some _ _).symm.trans H; rw [hy496]; with_reducible exact H2_) | (have H2_ := (Option.bind_some _ _).symm.trans H; with_reducible exact H2_) | with_reducible exact H | (rw [hy496]; exact H) | exact H
        have Ny496 := Aside0.mk hy496
        clear hy496
        have H' := Aside0.mk H
        clear H
        go_wp2_with (first | ((with_reducible refine gate_builtin (b := .append) (xs := #[.tmp 31, .tmp 34]) rfl ?_); (try (refine gate_guard (by rfl) ?_; dsimp only)); at_builtin; refine Kd.R_append k42 (w0 := w) w.heap.size rfl (.tmp 31) (.tmp 34) 22 42 (.agg #[(.int .i64 0), (.int .i64 0), (.int .i64 0), (.int .i64 0), (.int .i64 0)]) 40 rfl Try.underlying22 info42 rfl (by decide) (by omega) u5 x5_2 (⟨183, 0, 0, 0, x6_2⟩ : S42) [.int .i64 183, .int .i64 0, .int .i64 0, .int .i64 0, .int .i64 x6_2] (fun _ => True) (fun _ => False) rfl rfl ?aP (fun _ hk => hk.elim) ?aF ?aO ?aB ?aS ?aL ?_; (case aP => exact k42_mkM _ _ _ (⟨183, 0, 0, 0, x6_2⟩ : S42)); (case aB => exact bz_); (case aF => exact (fun _ _ => trivial)); (case aO => exact (by (with_reducible repeat (first | apply Kd.R_alloc | apply Kd.R_drewN | apply Kd.R_drew)); exact HO_5.out)); (case aS => exact (below_size bz_)); (case aL => have := LMc11.out; omega); intro v497 w12 ho hb hg hat; rw [← Ny496.out] at ho; have n0_ := Aside0.mk (hb); have n1_ := Aside0.mk (ho); clear HB; clear HO_5; have HB := n0_; have HO498 := n1_; clear n0_ n1_; clear ho hb hg hat))
        repeat (go_quiet (first | ((with_reducible refine gate_builtin (b := .append) (xs := #[.tmp 31, .tmp 34]) rfl ?_); (try (refine gate_guard (by rfl) ?_; dsimp only)); at_builtin; refine Kd.R_append k42 (w0 := w) w.heap.size rfl (.tmp 31) (.tmp 34) 22 42 (.agg #[(.int .i64 0), (.int .i64 0), (.int .i64 0), (.int .i64 0), (.int .i64 0)]) 40 rfl Try.underlying22 info42 rfl (by decide) (by omega) u5 x5_2 (⟨183, 0, 0, 0, x6_2⟩ : S42) [.int .i64 183, .int .i64 0, .int .i64 0, .int .i64 0, .int .i64 x6_2] (fun _ => True) (fun _ => False) rfl rfl ?aP (fun _ hk => hk.elim) ?aF ?aO ?aB ?aS ?aL ?_; (case aP => exact k42_mkM _ _ _ (⟨183, 0, 0, 0, x6_2⟩ : S42)); (case aB => exact bz_); (case aF => exact (fun _ _ => trivial)); (case aO => exact (by (with_reducible repeat (first | apply Kd.R_alloc | apply Kd.R_drewN | apply Kd.R_drew)); exact HO_5.out)); (case aS => exact (below_size bz_)); (case aL => have := LMc11.out; omega); intro v497 w12 ho hb hg hat; rw [← Ny496.out] at ho; have n0_ := Aside0.mk (hb); have n1_ := Aside0.mk (ho); clear HB; clear HO_5; have HB := n0_; have HO498 := n1_; clear n0_ n1_; clear ho hb hg hat)); try go_wp2_with (first | ((with_reducible refine gate_builtin (b := .append) (xs := #[.tmp 31, .tmp 34]) rfl ?_); (try (refine gate_guard (by rfl) ?_; dsimp only)); at_builtin; refine Kd.R_append k42 (w0 := w) w.heap.size rfl (.tmp 31) (.tmp 34) 22 42 (.agg #[(.int .i64 0), (.int .i64 0), (.int .i64 0), (.int .i64 0), (.int .i64 0)]) 40 rfl Try.underlying22 info42 rfl (by decide) (by omega) u5 x5_2 (⟨183, 0, 0, 0, x6_2⟩ : S42) [.int .i64 183, .int .i64 0, .int .i64 0, .int .i64 0, .int .i64 x6_2] (fun _ => True) (fun _ => False) rfl rfl ?aP (fun _ hk => hk.elim) ?aF ?aO ?aB ?aS ?aL ?_; (case aP => exact k42_mkM _ _ _ (⟨183, 0, 0, 0, x6_2⟩ : S42)); (case aB => exact bz_); (case aF => exact (fun _ _ => trivial)); (case aO => exact (by (with_reducible repeat (first | apply Kd.R_alloc | apply Kd.R_drewN | apply Kd.R_drew)); exact HO_5.out)); (case aS => exact (below_size bz_)); (case aL => have := LMc11.out; omega); intro v497 w12 ho hb hg hat; rw [← Ny496.out] at ho; have n0_ := Aside0.mk (hb); have n1_ := Aside0.mk (ho); clear HB; clear HO_5; have HB := n0_; have HO498 := n1_; clear n0_ n1_; clear ho hb hg hat)))
        go_roundg k2
        case measure => have := HJ2.out; have := HK2.out; omega
        case rel => exact ⟨(y496), (wrap64 (x6_2 + 1)), (by first | rfl | (simp; done) | (simp [*]; done)), H', ⟨by have := HJ2.out; have := HK2.out; omega⟩, ⟨by (with_reducible repeat (first | apply Kd.R_alloc | apply Kd.R_drewN | apply Kd.R_drew)); exact HO498.out⟩, ⟨bz_⟩⟩
       ·rw [if_neg c11] at H
        exact absurd H (by simp)
      ·rw [if_neg c10] at H
       have c10b0 : decide (x6_2 < t495) = false := decide_eq_false c10
       clear c10
       have H' := Aside0.mk H
       clear H
       go_wp2
       repeat (go_quiet (fail); try go_wp2)
       go_loopg [5, 7] k2 (fun kq v5 v7 w' => ∃ (x5_3 : List (S42)) (x7_3 : Int), v7 = .int .i64 x7_3 ∧ Aside0 (lockgatelaw06_FlowMoved.l1 kq l0 t495 x5_3 x7_3 = some r) ∧ Aside0 (kq ≤ k2) ∧ Aside0 (Kd.R k42 42 w' w.heap.size (fun _ => True) v5 x5_3) ∧ Aside0 (Below w.heap.size w w'))
       case atStart => exact ⟨(x5_2), (0), (by first | rfl | (simp; done) | (simp [*]; done)), H', ⟨Nat.le_refl _⟩, ⟨by (with_reducible repeat (first | apply Kd.R_alloc | apply Kd.R_drewN | apply Kd.R_drew)); exact HO_5.out⟩, ⟨bz_⟩⟩
       case round =>
        clear H'
        try clear c1
        try clear p2
        try clear c5
        try clear c6
        try clear p6
        try clear c10
        try clear c10b0
        try clear c11
        try clear p2
        obtain ⟨x5_3, x7_3, rfl, HA, HK3, HO_5, HB⟩ := hrel
        cases gk with
        | zero => exact absurd HA.out (by simp [lockgatelaw06_FlowMoved.l1])
        | succ k3 =>
         have H := HA.out
         clear HA
         simp only [lockgatelaw06_FlowMoved.l1] at H
         by_cases c13 : x7_3 < (l0.length : Int)
         ·rw [if_pos c13] at H
          have c13b0 : decide (x7_3 < (l0.length : Int)) = true := decide_eq_true c13
          clear c13
          by_cases c14 : 0 ≤ x7_3
          ·rw [if_pos c14] at H
           have c14b0 : decide (0 ≤ x7_3) = true := decide_eq_true c14
           clear c14
           by_cases c15 : x5_3.length < 3518437208883
           ·rw [if_pos c15] at H
            have LMc15 := Aside0.mk c15
            clear c15
            obtain ⟨y500, hy500⟩ : ∃ y_ : List (S42), y_ = (x5_3 ++ [(⟨(rd_T42 l0 x7_3).f0, (rd_T42 l0 x7_3).f1, (rd_T42 l0 x7_3).f2, (rd_T42 l0 x7_3).f3, (rd_T42 l0 x7_3).f4⟩ : S42)]) := ⟨_, rfl⟩
            replace H : (lockgatelaw06_FlowMoved.l1 k3 l0 t495 y500 (wrap64 (x7_3 + 1))) = some r := by first | (rw [hy500]; with_reducible exact H) | (have H2_ := (Option.bind_some _ _).symm.trans H; rw [hy500]; with_reducible exact H2_) | (have H2_ := (Option.bind_some _ _).symm.trans H; with_reducible exact H2_) | with_reducible exact H | (rw [hy500]; exact H) | exact H
            have Ny500 := Aside0.mk hy500
            clear hy500
            have H' := Aside0.mk H
            clear H
            have p499 : 0 ≤ (x7_3 : Int) := of_decide_eq_true (by first | (with_reducible assumption) | assumption)
            have q499 : x7_3 < (l0.length : Int) := of_decide_eq_true (by first | (with_reducible assumption) | assumption)
            obtain ⟨ad499, e499, hx499_0, hx499_1, hx499_2, hx499_3, hx499_4⟩ := at_T42 HR0.out x7_3 p499 q499
            cases e499
            replace hx499_0 := (HB.out.cell (World.block_lt_of_cell? w _ hx499_0)).trans hx499_0
            replace hx499_1 := (HB.out.cell (World.block_lt_of_cell? w _ hx499_1)).trans hx499_1
            replace hx499_2 := (HB.out.cell (World.block_lt_of_cell? w _ hx499_2)).trans hx499_2
            replace hx499_3 := (HB.out.cell (World.block_lt_of_cell? w _ hx499_3)).trans hx499_3
            replace hx499_4 := (HB.out.cell (World.block_lt_of_cell? w _ hx499_4)).trans hx499_4
            replace p499 := eq_true p499
            replace q499 := eq_true q499
            go_wp2_with (first | ((with_reducible refine gate_builtin (b := .append) (xs := #[.tmp 42, .tmp 47]) rfl ?_); (try (refine gate_guard (by rfl) ?_; dsimp only)); at_builtin; refine Kd.R_append k42 (w0 := w) w.heap.size rfl (.tmp 42) (.tmp 47) 22 42 (.agg #[(.int .i64 0), (.int .i64 0), (.int .i64 0), (.int .i64 0), (.int .i64 0)]) 40 rfl Try.underlying22 info42 rfl (by decide) (by omega) u5 x5_3 (⟨(rd_T42 l0 x7_3).f0, (rd_T42 l0 x7_3).f1, (rd_T42 l0 x7_3).f2, (rd_T42 l0 x7_3).f3, (rd_T42 l0 x7_3).f4⟩ : S42) [.int .i64 ((rd_T42 l0 x7_3).f0), .int .i64 ((rd_T42 l0 x7_3).f1), .int .i64 ((rd_T42 l0 x7_3).f2), .int .i64 ((rd_T42 l0 x7_3).f3), .int .i64 ((rd_T42 l0 x7_3).f4)] (fun _ => True) (fun _ => False) rfl rfl ?aP (fun _ hk => hk.elim) ?aF ?aO ?aB ?aS ?aL ?_; (case aP => exact k42_mkM _ _ _ (⟨(rd_T42 l0 x7_3).f0, (rd_T42 l0 x7_3).f1, (rd_T42 l0 x7_3).f2, (rd_T42 l0 x7_3).f3, (rd_T42 l0 x7_3).f4⟩ : S42)); (case aB => exact bz_); (case aF => exact (fun _ _ => trivial)); (case aO => exact (by (with_reducible repeat (first | apply Kd.R_alloc | apply Kd.R_drewN | apply Kd.R_drew)); exact HO_5.out)); (case aS => exact (below_size bz_)); (case aL => have := LMc15.out; omega); intro v501 w16 ho hb hg hat; rw [← Ny500.out] at ho; have n0_ := Aside0.mk (hb); have n1_ := Aside0.mk (ho); clear HB; clear HO_5; have HB := n0_; have HO502 := n1_; clear n0_ n1_; clear ho hb hg hat))
            repeat (go_quiet (first | ((with_reducible refine gate_builtin (b := .append) (xs := #[.tmp 42, .tmp 47]) rfl ?_); (try (refine gate_guard (by rfl) ?_; dsimp only)); at_builtin; refine Kd.R_append k42 (w0 := w) w.heap.size rfl (.tmp 42) (.tmp 47) 22 42 (.agg #[(.int .i64 0), (.int .i64 0), (.int .i64 0), (.int .i64 0), (.int .i64 0)]) 40 rfl Try.underlying22 info42 rfl (by decide) (by omega) u5 x5_3 (⟨(rd_T42 l0 x7_3).f0, (rd_T42 l0 x7_3).f1, (rd_T42 l0 x7_3).f2, (rd_T42 l0 x7_3).f3, (rd_T42 l0 x7_3).f4⟩ : S42) [.int .i64 ((rd_T42 l0 x7_3).f0), .int .i64 ((rd_T42 l0 x7_3).f1), .int .i64 ((rd_T42 l0 x7_3).f2), .int .i64 ((rd_T42 l0 x7_3).f3), .int .i64 ((rd_T42 l0 x7_3).f4)] (fun _ => True) (fun _ => False) rfl rfl ?aP (fun _ hk => hk.elim) ?aF ?aO ?aB ?aS ?aL ?_; (case aP => exact k42_mkM _ _ _ (⟨(rd_T42 l0 x7_3).f0, (rd_T42 l0 x7_3).f1, (rd_T42 l0 x7_3).f2, (rd_T42 l0 x7_3).f3, (rd_T42 l0 x7_3).f4⟩ : S42)); (case aB => exact bz_); (case aF => exact (fun _ _ => trivial)); (case aO => exact (by (with_reducible repeat (first | apply Kd.R_alloc | apply Kd.R_drewN | apply Kd.R_drew)); exact HO_5.out)); (case aS => exact (below_size bz_)); (case aL => have := LMc15.out; omega); intro v501 w16 ho hb hg hat; rw [← Ny500.out] at ho; have n0_ := Aside0.mk (hb); have n1_ := Aside0.mk (ho); clear HB; clear HO_5; have HB := n0_; have HO502 := n1_; clear n0_ n1_; clear ho hb hg hat)); try go_wp2_with (first | ((with_reducible refine gate_builtin (b := .append) (xs := #[.tmp 42, .tmp 47]) rfl ?_); (try (refine gate_guard (by rfl) ?_; dsimp only)); at_builtin; refine Kd.R_append k42 (w0 := w) w.heap.size rfl (.tmp 42) (.tmp 47) 22 42 (.agg #[(.int .i64 0), (.int .i64 0), (.int .i64 0), (.int .i64 0), (.int .i64 0)]) 40 rfl Try.underlying22 info42 rfl (by decide) (by omega) u5 x5_3 (⟨(rd_T42 l0 x7_3).f0, (rd_T42 l0 x7_3).f1, (rd_T42 l0 x7_3).f2, (rd_T42 l0 x7_3).f3, (rd_T42 l0 x7_3).f4⟩ : S42) [.int .i64 ((rd_T42 l0 x7_3).f0), .int .i64 ((rd_T42 l0 x7_3).f1), .int .i64 ((rd_T42 l0 x7_3).f2), .int .i64 ((rd_T42 l0 x7_3).f3), .int .i64 ((rd_T42 l0 x7_3).f4)] (fun _ => True) (fun _ => False) rfl rfl ?aP (fun _ hk => hk.elim) ?aF ?aO ?aB ?aS ?aL ?_; (case aP => exact k42_mkM _ _ _ (⟨(rd_T42 l0 x7_3).f0, (rd_T42 l0 x7_3).f1, (rd_T42 l0 x7_3).f2, (rd_T42 l0 x7_3).f3, (rd_T42 l0 x7_3).f4⟩ : S42)); (case aB => exact bz_); (case aF => exact (fun _ _ => trivial)); (case aO => exact (by (with_reducible repeat (first | apply Kd.R_alloc | apply Kd.R_drewN | apply Kd.R_drew)); exact HO_5.out)); (case aS => exact (below_size bz_)); (case aL => have := LMc15.out; omega); intro v501 w16 ho hb hg hat; rw [← Ny500.out] at ho; have n0_ := Aside0.mk (hb); have n1_ := Aside0.mk (ho); clear HB; clear HO_5; have HB := n0_; have HO502 := n1_; clear n0_ n1_; clear ho hb hg hat)))
            go_roundg k3
            case measure => have := HJ2.out; have := HK2.out; have := HK3.out; omega
            case rel => exact ⟨(y500), (wrap64 (x7_3 + 1)), (by first | rfl | (simp; done) | (simp [*]; done)), H', ⟨by have := HJ2.out; have := HK2.out; have := HK3.out; omega⟩, ⟨by (with_reducible repeat (first | apply Kd.R_alloc | apply Kd.R_drewN | apply Kd.R_drew)); exact HO502.out⟩, ⟨bz_⟩⟩
           ·rw [if_neg c15] at H
            exact absurd H (by simp)
          ·rw [if_neg c14] at H
           exact absurd H (by simp)
         ·rw [if_neg c13] at H
          have c13b0 : decide (x7_3 < (l0.length : Int)) = false := decide_eq_false c13
          clear c13
          replace H := Option.bind_eq_some_iff.mp H
          obtain ⟨⟨t503, t504⟩, A170, H⟩ := H
          replace H : ((flow_Targets.f k3 x5_3).bind fun bt507 => (if t504 = 0 then (if bt507.2 = 0 then (lockgatelaw06_FlowMoved.j3 k3 l0 t495 x5_3 t503 bt507.1 ((bt507.1.length : Int) != (wrap64 (t495 + (t503.length : Int))))) else (lockgatelaw06_FlowMoved.j3 k3 l0 t495 x5_3 t503 bt507.1 true)) else ((lockgatelaw06_works.f k3).bind fun t511 => (some t511)))) = some r := H
          have A17 := Aside0.mk A170
          clear A170
          replace H := Option.bind_eq_some_iff.mp H
          obtain ⟨⟨t507, t508⟩, A180, H⟩ := H
          replace H : (if t504 = 0 then (if t508 = 0 then (lockgatelaw06_FlowMoved.j3 k3 l0 t495 x5_3 t503 t507 ((t507.length : Int) != (wrap64 (t495 + (t503.length : Int))))) else (lockgatelaw06_FlowMoved.j3 k3 l0 t495 x5_3 t503 t507 true)) else ((lockgatelaw06_works.f k3).bind fun t511 => (some t511))) = some r := H
          have A18 := Aside0.mk A180
          clear A180
          by_cases c19 : t504 = 0
          ·rw [if_pos c19] at H
           have c19b0 : (t504 == 0) = true := beq_iff_eq.mpr c19
           have c19b1 : (t504 != 0) = false := bne_eq_false_iff_eq.mpr c19
           clear c19
           have HC20 := Aside0.mk H
           clear H
           go_upto_region 17 with (first | (go_at_call 11; (with_reducible refine (flow_Targets.calls k3 _ _ l0 t503 t504 _ ?side1 ?side2 A17.out).mono ?_); (case side1 => repeat (first | exact (Kd.C_below HR0.out HB.out) | (with_reducible refine Kd.C_alloc ?_ _) | (with_reducible refine Kd.C_drewN ?_ _) | (with_reducible refine Kd.C_drew ?_))); (case side2 => exact HC0.out); rintro e w21 ⟨v505, rfl, ho0, hb⟩; have HO506 := Aside0.mk (Kd.R_lower ho0 (below_size bz_)); replace HO_5 := Aside0.mk (Kd.R_below (by (with_reducible repeat (first | apply Kd.R_alloc | apply Kd.R_drewN | apply Kd.R_drew)); exact HO_5.out) hb); replace HB := bl_ hb; (try clear hb); (try clear hb2); (try clear hk); (try clear hi); (try clear ho0); obtain ⟨Ao22, co22, eo22⟩ := Kd.R_slice HO_5.out; subst eo22) | (go_at_call 11; (with_reducible refine (flow_Targets.calls k3 _ _ x5_3 t507 t508 _ ?side1 ?side2 A18.out).mono ?_); (case side1 => repeat (first | exact (Kd.R_reads' HO_5.out).2.2 | (with_reducible refine Kd.C_alloc ?_ _) | (with_reducible refine Kd.C_drewN ?_ _) | (with_reducible refine Kd.C_drew ?_))); (case side2 => exact (Kd.R_reads' HO_5.out).2.1); rintro e w23 ⟨v509, rfl, ho0, hb⟩; have n0_ := Aside0.mk (Kd.R_below (by (with_reducible repeat (first | apply Kd.R_alloc | apply Kd.R_drewN | apply Kd.R_drew)); exact HO_5.out) hb); have n1_ := Aside0.mk (Kd.R_elder' (by (with_reducible repeat (first | apply Kd.R_alloc | apply Kd.R_drewN | apply Kd.R_drew)); exact HO506.out) (Kd.R_base ho0) hb); have n2_ := Aside0.mk (Kd.R_lower (Kd.R_new' ho0 (Kd.R_lt (by (with_reducible repeat (first | apply Kd.R_alloc | apply Kd.R_drewN | apply Kd.R_drew)); exact HO506.out))) (below_size bz_)); have n3_ := bl_ hb; clear HO_5; clear HO506; clear HB; have HO_5 := n0_; have HO506 := n1_; have HO510 := n2_; have HB := n3_; clear n0_ n1_ n2_ n3_; (try clear hb); (try clear hb2); (try clear hk); (try clear hi); (try clear ho0)))
           repeat (go_quiet (first | (go_at_call 11; (with_reducible refine (flow_Targets.calls k3 _ _ l0 t503 t504 _ ?side1 ?side2 A17.out).mono ?_); (case side1 => repeat (first | exact (Kd.C_below HR0.out HB.out) | (with_reducible refine Kd.C_alloc ?_ _) | (with_reducible refine Kd.C_drewN ?_ _) | (with_reducible refine Kd.C_drew ?_))); (case side2 => exact HC0.out); rintro e w21 ⟨v505, rfl, ho0, hb⟩; have HO506 := Aside0.mk (Kd.R_lower ho0 (below_size bz_)); replace HO_5 := Aside0.mk (Kd.R_below (by (with_reducible repeat (first | apply Kd.R_alloc | apply Kd.R_drewN | apply Kd.R_drew)); exact HO_5.out) hb); replace HB := bl_ hb; (try clear hb); (try clear hb2); (try clear hk); (try clear hi); (try clear ho0); obtain ⟨Ao22, co22, eo22⟩ := Kd.R_slice HO_5.out; subst eo22) | (go_at_call 11; (with_reducible refine (flow_Targets.calls k3 _ _ x5_3 t507 t508 _ ?side1 ?side2 A18.out).mono ?_); (case side1 => repeat (first | exact (Kd.R_reads' HO_5.out).2.2 | (with_reducible refine Kd.C_alloc ?_ _) | (with_reducible refine Kd.C_drewN ?_ _) | (with_reducible refine Kd.C_drew ?_))); (case side2 => exact (Kd.R_reads' HO_5.out).2.1); rintro e w23 ⟨v509, rfl, ho0, hb⟩; have n0_ := Aside0.mk (Kd.R_below (by (with_reducible repeat (first | apply Kd.R_alloc | apply Kd.R_drewN | apply Kd.R_drew)); exact HO_5.out) hb); have n1_ := Aside0.mk (Kd.R_elder' (by (with_reducible repeat (first | apply Kd.R_alloc | apply Kd.R_drewN | apply Kd.R_drew)); exact HO506.out) (Kd.R_base ho0) hb); have n2_ := Aside0.mk (Kd.R_lower (Kd.R_new' ho0 (Kd.R_lt (by (with_reducible repeat (first | apply Kd.R_alloc | apply Kd.R_drewN | apply Kd.R_drew)); exact HO506.out))) (below_size bz_)); have n3_ := bl_ hb; clear HO_5; clear HO506; clear HB; have HO_5 := n0_; have HO506 := n1_; have HO510 := n2_; have HB := n3_; clear n0_ n1_ n2_ n3_; (try clear hb); (try clear hb2); (try clear hk); (try clear hi); (try clear ho0))); go_upto_region 17 with (first | (go_at_call 11; (with_reducible refine (flow_Targets.calls k3 _ _ l0 t503 t504 _ ?side1 ?side2 A17.out).mono ?_); (case side1 => repeat (first | exact (Kd.C_below HR0.out HB.out) | (with_reducible refine Kd.C_alloc ?_ _) | (with_reducible refine Kd.C_drewN ?_ _) | (with_reducible refine Kd.C_drew ?_))); (case side2 => exact HC0.out); rintro e w21 ⟨v505, rfl, ho0, hb⟩; have HO506 := Aside0.mk (Kd.R_lower ho0 (below_size bz_)); replace HO_5 := Aside0.mk (Kd.R_below (by (with_reducible repeat (first | apply Kd.R_alloc | apply Kd.R_drewN | apply Kd.R_drew)); exact HO_5.out) hb); replace HB := bl_ hb; (try clear hb); (try clear hb2); (try clear hk); (try clear hi); (try clear ho0); obtain ⟨Ao22, co22, eo22⟩ := Kd.R_slice HO_5.out; subst eo22) | (go_at_call 11; (with_reducible refine (flow_Targets.calls k3 _ _ x5_3 t507 t508 _ ?side1 ?side2 A18.out).mono ?_); (case side1 => repeat (first | exact (Kd.R_reads' HO_5.out).2.2 | (with_reducible refine Kd.C_alloc ?_ _) | (with_reducible refine Kd.C_drewN ?_ _) | (with_reducible refine Kd.C_drew ?_))); (case side2 => exact (Kd.R_reads' HO_5.out).2.1); rintro e w23 ⟨v509, rfl, ho0, hb⟩; have n0_ := Aside0.mk (Kd.R_below (by (with_reducible repeat (first | apply Kd.R_alloc | apply Kd.R_drewN | apply Kd.R_drew)); exact HO_5.out) hb); have n1_ := Aside0.mk (Kd.R_elder' (by (with_reducible repeat (first | apply Kd.R_alloc | apply Kd.R_drewN | apply Kd.R_drew)); exact HO506.out) (Kd.R_base ho0) hb); have n2_ := Aside0.mk (Kd.R_lower (Kd.R_new' ho0 (Kd.R_lt (by (with_reducible repeat (first | apply Kd.R_alloc | apply Kd.R_drewN | apply Kd.R_drew)); exact HO506.out))) (below_size bz_)); have n3_ := bl_ hb; clear HO_5; clear HO506; clear HB; have HO_5 := n0_; have HO506 := n1_; have HO510 := n2_; have HB := n3_; clear n0_ n1_ n2_ n3_; (try clear hb); (try clear hb2); (try clear hk); (try clear hi); (try clear ho0))))
           (try simp only [Act.put, s1_, s2_, s3_])
           go_cut [72] (fun v72 wc => ∃ (kq : Nat) (x72_19 : Bool), v72 = .bool x72_19 ∧ Aside0 (lockgatelaw06_FlowMoved.j3 kq l0 t495 x5_3 t503 t507 x72_19 = some r) ∧ Aside0 (kq ≤ k3) ∧ Aside0 (Kd.R k42 42 wc w.heap.size (fun _ => True) (.slice Ao22 x5_3.length co22) x5_3) ∧ Aside0 (Kd.R (Kd.int .i64) 3 wc w.heap.size (fun k_ => some k_ ≠ (v509 : Value).ownBlock) v505 t503) ∧ Aside0 (Kd.R (Kd.int .i64) 3 wc w.heap.size (fun k_ => some k_ ≠ (v505 : Value).ownBlock) v509 t507) ∧ Aside0 (Below w.heap.size w wc))
           case first =>
            have H := HC20.out
            clear HC20
            by_cases c24 : t508 = 0
            ·rw [if_pos c24] at H
             have c24b0 : (t508 == 0) = true := beq_iff_eq.mpr c24
             have c24b1 : (t508 != 0) = false := bne_eq_false_iff_eq.mpr c24
             clear c24
             (first | rw [c24b0] | (simp only [i64_w, i32_w]; rw [c24b0]) | skip)
             have H' := Aside0.mk H
             clear H
             obtain ⟨Ao25, co25, eo25⟩ := Kd.R_slice HO510.out
             subst eo25
             obtain ⟨Ao26, co26, eo26⟩ := Kd.R_slice HO506.out
             subst eo26
             go_wp2
             repeat (go_quiet (fail); try go_wp2)
             go_meet
             case rel => exact ⟨_, (((t507.length : Int) != (wrap64 (t495 + (t503.length : Int))))), (by first | rfl | (simp; done) | (simp [*]; done)), H', ⟨by have := HJ2.out; have := HK2.out; have := HK3.out; first | omega | exact Nat.le_refl _⟩, ⟨by (with_reducible repeat (first | apply Kd.R_alloc | apply Kd.R_drewN | apply Kd.R_drew)); exact HO_5.out⟩, ⟨by (with_reducible repeat (first | apply Kd.R_alloc | apply Kd.R_drewN | apply Kd.R_drew)); exact Kd.R_mono HO506.out (fun _ hk => hk.2)⟩, ⟨by (with_reducible repeat (first | apply Kd.R_alloc | apply Kd.R_drewN | apply Kd.R_drew)); exact Kd.R_mono HO510.out (fun _ hk => hk.2)⟩, ⟨bz_⟩⟩
            ·rw [if_neg c24] at H
             have c24b0 : (t508 == 0) = false := beq_eq_false_iff_ne.mpr c24
             have c24b1 : (t508 != 0) = true := bne_iff_ne.mpr c24
             (first | rw [c24b0] | (simp only [i64_w, i32_w]; rw [c24b0]) | skip)
             exfalso
             cases k3 with
             | zero => rw [lockgatelaw06_FlowMoved.j3] at H; exact nomatch H
             | succ q_ => rw [lockgatelaw06_FlowMoved.j3, if_pos rfl] at H; exact absurd ((Option.some.inj H).trans HRT.out) (by decide)
           case rest =>
            clear HC20
            try clear c1
            try clear c2
            try clear p2
            try clear p4
            try clear q4
            try clear hx4
            try clear c5
            try clear c6
            try clear p6
            try clear c10
            try clear c10b0
            try clear c11
            try clear c13
            try clear c13b0
            try clear c14
            try clear c14b0
            try clear c15
            try clear c19
            try clear c19b0
            try clear c19b1
            try clear c24
            try clear c24b0
            try clear c24b1
            try clear hx499_0
            try clear hx499_1
            try clear hx499_2
            try clear hx499_3
            try clear hx499_4
            try clear p2
            try clear p499
            try clear p6
            try clear q499
            obtain ⟨kq, x72_19, rfl, HA, HJ19, HO_5, HO_8, HO_10, HB⟩ := hcut
            cases kq with
            | zero => exact absurd HA.out (by simp [lockgatelaw06_FlowMoved.j3])
            | succ kj19 =>
             have H := HA.out
             clear HA
             simp only [lockgatelaw06_FlowMoved.j3] at H
             by_cases c27 : x72_19 = true
             ·subst c27
              have H1 : (some false) = some r := by rw [if_pos rfl] at H; exact H
              clear H
              have H := H1
              clear H1
              exact absurd ((Option.some.inj H).trans HRT.out) (by decide)
             ·replace c27 := Bool.eq_false_iff.mpr c27
              subst c27
              have H1 : ((flow_Reached.f kj19 l0 t503).bind fun t512 => ((flow_Reached.f kj19 x5_3 t507).bind fun t515 => (lockgatelaw06_FlowMoved.l2 kj19 t495 t503 t507 t512 t515 0))) = some r := by rw [if_neg (show ¬ (false = true) by decide)] at H; exact H
              clear H
              have H := H1
              clear H1
              replace H := Option.bind_eq_some_iff.mp H
              obtain ⟨t512, A280, H⟩ := H
              replace H : ((flow_Reached.f kj19 x5_3 t507).bind fun t515 => (lockgatelaw06_FlowMoved.l2 kj19 t495 t503 t507 t512 t515 0)) = some r := H
              have A28 := Aside0.mk A280
              clear A280
              replace H := Option.bind_eq_some_iff.mp H
              obtain ⟨t515, A290, H⟩ := H
              replace H : (lockgatelaw06_FlowMoved.l2 kj19 t495 t503 t507 t512 t515 0) = some r := H
              have A29 := Aside0.mk A290
              clear A290
              have H' := Aside0.mk H
              clear H
              obtain ⟨Ao30, co30, eo30⟩ := Kd.R_slice HO_8.out
              subst eo30
              go_wp2_with (first | (go_at_call 17; (with_reducible refine (flow_Reached.calls kj19 _ _ l0 _ _ t503 t512 _ ?side1 ?side2 ?side3 ?side4 A28.out).mono ?_); (case side1 => repeat (first | exact (Kd.C_below HR0.out HB.out) | (with_reducible refine Kd.C_alloc ?_ _) | (with_reducible refine Kd.C_drewN ?_ _) | (with_reducible refine Kd.C_drew ?_))); (case side2 => exact HC0.out); (case side3 => repeat (first | exact (Kd.R_reads' HO_8.out).2.2 | (with_reducible refine Kd.C_alloc ?_ _) | (with_reducible refine Kd.C_drewN ?_ _) | (with_reducible refine Kd.C_drew ?_))); (case side4 => exact (Kd.R_reads' HO_8.out).2.1); rintro e w31 ⟨v513, rfl, ho0, hb⟩; have HO514 := Aside0.mk (Kd.R_lower ho0 (below_size bz_)); replace HO_5 := Aside0.mk (Kd.R_below (by (with_reducible repeat (first | apply Kd.R_alloc | apply Kd.R_drewN | apply Kd.R_drew)); exact HO_5.out) hb); replace HO_8 := Aside0.mk (Kd.R_below (by (with_reducible repeat (first | apply Kd.R_alloc | apply Kd.R_drewN | apply Kd.R_drew)); exact HO_8.out) hb); replace HO_10 := Aside0.mk (Kd.R_below (by (with_reducible repeat (first | apply Kd.R_alloc | apply Kd.R_drewN | apply Kd.R_drew)); exact HO_10.out) hb); replace HB := bl_ hb; (try clear hb); (try clear hb2); (try clear hk); (try clear hi); (try clear ho0); obtain ⟨Ao32, co32, eo32⟩ := Kd.R_slice HO_10.out; subst eo32) | (go_at_call 17; (with_reducible refine (flow_Reached.calls kj19 _ _ x5_3 _ _ t507 t515 _ ?side1 ?side2 ?side3 ?side4 A29.out).mono ?_); (case side1 => repeat (first | exact (Kd.R_reads' HO_5.out).2.2 | (with_reducible refine Kd.C_alloc ?_ _) | (with_reducible refine Kd.C_drewN ?_ _) | (with_reducible refine Kd.C_drew ?_))); (case side2 => exact (Kd.R_reads' HO_5.out).2.1); (case side3 => repeat (first | exact (Kd.R_reads' HO_10.out).2.2 | (with_reducible refine Kd.C_alloc ?_ _) | (with_reducible refine Kd.C_drewN ?_ _) | (with_reducible refine Kd.C_drew ?_))); (case side4 => exact (Kd.R_reads' HO_10.out).2.1); rintro e w33 ⟨v516, rfl, ho0, hb⟩; have n0_ := Aside0.mk (Kd.R_below (by (with_reducible repeat (first | apply Kd.R_alloc | apply Kd.R_drewN | apply Kd.R_drew)); exact HO_5.out) hb); have n1_ := Aside0.mk (Kd.R_below (by (with_reducible repeat (first | apply Kd.R_alloc | apply Kd.R_drewN | apply Kd.R_drew)); exact HO_8.out) hb); have n2_ := Aside0.mk (Kd.R_below (by (with_reducible repeat (first | apply Kd.R_alloc | apply Kd.R_drewN | apply Kd.R_drew)); exact HO_10.out) hb); have n3_ := Aside0.mk (Kd.R_elder' (by (with_reducible repeat (first | apply Kd.R_alloc | apply Kd.R_drewN | apply Kd.R_drew)); exact HO514.out) (Kd.R_base ho0) hb); have n4_ := Aside0.mk (Kd.R_lower (Kd.R_new' ho0 (Kd.R_lt (by (with_reducible repeat (first | apply Kd.R_alloc | apply Kd.R_drewN | apply Kd.R_drew)); exact HO514.out))) (below_size bz_)); have n5_ := bl_ hb; clear HO_5; clear HO_8; clear HO_10; clear HO514; clear HB; have HO_5 := n0_; have HO_8 := n1_; have HO_10 := n2_; have HO514 := n3_; have HO517 := n4_; have HB := n5_; clear n0_ n1_ n2_ n3_ n4_ n5_; (try clear hb); (try clear hb2); (try clear hk); (try clear hi); (try clear ho0)))
              repeat (go_quiet (first | (go_at_call 17; (with_reducible refine (flow_Reached.calls kj19 _ _ l0 _ _ t503 t512 _ ?side1 ?side2 ?side3 ?side4 A28.out).mono ?_); (case side1 => repeat (first | exact (Kd.C_below HR0.out HB.out) | (with_reducible refine Kd.C_alloc ?_ _) | (with_reducible refine Kd.C_drewN ?_ _) | (with_reducible refine Kd.C_drew ?_))); (case side2 => exact HC0.out); (case side3 => repeat (first | exact (Kd.R_reads' HO_8.out).2.2 | (with_reducible refine Kd.C_alloc ?_ _) | (with_reducible refine Kd.C_drewN ?_ _) | (with_reducible refine Kd.C_drew ?_))); (case side4 => exact (Kd.R_reads' HO_8.out).2.1); rintro e w31 ⟨v513, rfl, ho0, hb⟩; have HO514 := Aside0.mk (Kd.R_lower ho0 (below_size bz_)); replace HO_5 := Aside0.mk (Kd.R_below (by (with_reducible repeat (first | apply Kd.R_alloc | apply Kd.R_drewN | apply Kd.R_drew)); exact HO_5.out) hb); replace HO_8 := Aside0.mk (Kd.R_below (by (with_reducible repeat (first | apply Kd.R_alloc | apply Kd.R_drewN | apply Kd.R_drew)); exact HO_8.out) hb); replace HO_10 := Aside0.mk (Kd.R_below (by (with_reducible repeat (first | apply Kd.R_alloc | apply Kd.R_drewN | apply Kd.R_drew)); exact HO_10.out) hb); replace HB := bl_ hb; (try clear hb); (try clear hb2); (try clear hk); (try clear hi); (try clear ho0); obtain ⟨Ao32, co32, eo32⟩ := Kd.R_slice HO_10.out; subst eo32) | (go_at_call 17; (with_reducible refine (flow_Reached.calls kj19 _ _ x5_3 _ _ t507 t515 _ ?side1 ?side2 ?side3 ?side4 A29.out).mono ?_); (case side1 => repeat (first | exact (Kd.R_reads' HO_5.out).2.2 | (with_reducible refine Kd.C_alloc ?_ _) | (with_reducible refine Kd.C_drewN ?_ _) | (with_reducible refine Kd.C_drew ?_))); (case side2 => exact (Kd.R_reads' HO_5.out).2.1); (case side3 => repeat (first | exact (Kd.R_reads' HO_10.out).2.2 | (with_reducible refine Kd.C_alloc ?_ _) | (with_reducible refine Kd.C_drewN ?_ _) | (with_reducible refine Kd.C_drew ?_))); (case side4 => exact (Kd.R_reads' HO_10.out).2.1); rintro e w33 ⟨v516, rfl, ho0, hb⟩; have n0_ := Aside0.mk (Kd.R_below (by (with_reducible repeat (first | apply Kd.R_alloc | apply Kd.R_drewN | apply Kd.R_drew)); exact HO_5.out) hb); have n1_ := Aside0.mk (Kd.R_below (by (with_reducible repeat (first | apply Kd.R_alloc | apply Kd.R_drewN | apply Kd.R_drew)); exact HO_8.out) hb); have n2_ := Aside0.mk (Kd.R_below (by (with_reducible repeat (first | apply Kd.R_alloc | apply Kd.R_drewN | apply Kd.R_drew)); exact HO_10.out) hb); have n3_ := Aside0.mk (Kd.R_elder' (by (with_reducible repeat (first | apply Kd.R_alloc | apply Kd.R_drewN | apply Kd.R_drew)); exact HO514.out) (Kd.R_base ho0) hb); have n4_ := Aside0.mk (Kd.R_lower (Kd.R_new' ho0 (Kd.R_lt (by (with_reducible repeat (first | apply Kd.R_alloc | apply Kd.R_drewN | apply Kd.R_drew)); exact HO514.out))) (below_size bz_)); have n5_ := bl_ hb; clear HO_5; clear HO_8; clear HO_10; clear HO514; clear HB; have HO_5 := n0_; have HO_8 := n1_; have HO_10 := n2_; have HO514 := n3_; have HO517 := n4_; have HB := n5_; clear n0_ n1_ n2_ n3_ n4_ n5_; (try clear hb); (try clear hb2); (try clear hk); (try clear hi); (try clear ho0))); try go_wp2_with (first | (go_at_call 17; (with_reducible refine (flow_Reached.calls kj19 _ _ l0 _ _ t503 t512 _ ?side1 ?side2 ?side3 ?side4 A28.out).mono ?_); (case side1 => repeat (first | exact (Kd.C_below HR0.out HB.out) | (with_reducible refine Kd.C_alloc ?_ _) | (with_reducible refine Kd.C_drewN ?_ _) | (with_reducible refine Kd.C_drew ?_))); (case side2 => exact HC0.out); (case side3 => repeat (first | exact (Kd.R_reads' HO_8.out).2.2 | (with_reducible refine Kd.C_alloc ?_ _) | (with_reducible refine Kd.C_drewN ?_ _) | (with_reducible refine Kd.C_drew ?_))); (case side4 => exact (Kd.R_reads' HO_8.out).2.1); rintro e w31 ⟨v513, rfl, ho0, hb⟩; have HO514 := Aside0.mk (Kd.R_lower ho0 (below_size bz_)); replace HO_5 := Aside0.mk (Kd.R_below (by (with_reducible repeat (first | apply Kd.R_alloc | apply Kd.R_drewN | apply Kd.R_drew)); exact HO_5.out) hb); replace HO_8 := Aside0.mk (Kd.R_below (by (with_reducible repeat (first | apply Kd.R_alloc | apply Kd.R_drewN | apply Kd.R_drew)); exact HO_8.out) hb); replace HO_10 := Aside0.mk (Kd.R_below (by (with_reducible repeat (first | apply Kd.R_alloc | apply Kd.R_drewN | apply Kd.R_drew)); exact HO_10.out) hb); replace HB := bl_ hb; (try clear hb); (try clear hb2); (try clear hk); (try clear hi); (try clear ho0); obtain ⟨Ao32, co32, eo32⟩ := Kd.R_slice HO_10.out; subst eo32) | (go_at_call 17; (with_reducible refine (flow_Reached.calls kj19 _ _ x5_3 _ _ t507 t515 _ ?side1 ?side2 ?side3 ?side4 A29.out).mono ?_); (case side1 => repeat (first | exact (Kd.R_reads' HO_5.out).2.2 | (with_reducible refine Kd.C_alloc ?_ _) | (with_reducible refine Kd.C_drewN ?_ _) | (with_reducible refine Kd.C_drew ?_))); (case side2 => exact (Kd.R_reads' HO_5.out).2.1); (case side3 => repeat (first | exact (Kd.R_reads' HO_10.out).2.2 | (with_reducible refine Kd.C_alloc ?_ _) | (with_reducible refine Kd.C_drewN ?_ _) | (with_reducible refine Kd.C_drew ?_))); (case side4 => exact (Kd.R_reads' HO_10.out).2.1); rintro e w33 ⟨v516, rfl, ho0, hb⟩; have n0_ := Aside0.mk (Kd.R_below (by (with_reducible repeat (first | apply Kd.R_alloc | apply Kd.R_drewN | apply Kd.R_drew)); exact HO_5.out) hb); have n1_ := Aside0.mk (Kd.R_below (by (with_reducible repeat (first | apply Kd.R_alloc | apply Kd.R_drewN | apply Kd.R_drew)); exact HO_8.out) hb); have n2_ := Aside0.mk (Kd.R_below (by (with_reducible repeat (first | apply Kd.R_alloc | apply Kd.R_drewN | apply Kd.R_drew)); exact HO_10.out) hb); have n3_ := Aside0.mk (Kd.R_elder' (by (with_reducible repeat (first | apply Kd.R_alloc | apply Kd.R_drewN | apply Kd.R_drew)); exact HO514.out) (Kd.R_base ho0) hb); have n4_ := Aside0.mk (Kd.R_lower (Kd.R_new' ho0 (Kd.R_lt (by (with_reducible repeat (first | apply Kd.R_alloc | apply Kd.R_drewN | apply Kd.R_drew)); exact HO514.out))) (below_size bz_)); have n5_ := bl_ hb; clear HO_5; clear HO_8; clear HO_10; clear HO514; clear HB; have HO_5 := n0_; have HO_8 := n1_; have HO_10 := n2_; have HO514 := n3_; have HO517 := n4_; have HB := n5_; clear n0_ n1_ n2_ n3_ n4_ n5_; (try clear hb); (try clear hb2); (try clear hk); (try clear hi); (try clear ho0))))
              go_loopg [14] kj19 (fun kq v14 w' => ∃ (x14_5 : Int), v14 = .int .i64 x14_5 ∧ Aside0 (lockgatelaw06_FlowMoved.l2 kq t495 t503 t507 t512 t515 x14_5 = some r) ∧ Aside0 (kq ≤ kj19) ∧ Aside0 (Kd.R (Kd.int .i64) 3 w' w.heap.size (fun k_ => some k_ ≠ ((.slice Ao32 t507.length co32) : Value).ownBlock) (.slice Ao30 t503.length co30) t503) ∧ Aside0 (Kd.R (Kd.int .i64) 3 w' w.heap.size (fun k_ => some k_ ≠ ((.slice Ao30 t503.length co30) : Value).ownBlock) (.slice Ao32 t507.length co32) t507) ∧ Aside0 (Kd.R Kd.bool 4 w' w.heap.size (fun k_ => some k_ ≠ (v516 : Value).ownBlock) v513 t512) ∧ Aside0 (Kd.R Kd.bool 4 w' w.heap.size (fun k_ => some k_ ≠ (v513 : Value).ownBlock) v516 t515) ∧ Aside0 (Below w.heap.size w w'))
              case atStart => exact ⟨(0), (by first | rfl | (simp; done) | (simp [*]; done)), H', ⟨Nat.le_refl _⟩, ⟨by (with_reducible repeat (first | apply Kd.R_alloc | apply Kd.R_drewN | apply Kd.R_drew)); exact HO_8.out⟩, ⟨by (with_reducible repeat (first | apply Kd.R_alloc | apply Kd.R_drewN | apply Kd.R_drew)); exact HO_10.out⟩, ⟨by (with_reducible repeat (first | apply Kd.R_alloc | apply Kd.R_drewN | apply Kd.R_drew)); exact Kd.R_mono HO514.out (fun _ hk => hk.2)⟩, ⟨by (with_reducible repeat (first | apply Kd.R_alloc | apply Kd.R_drewN | apply Kd.R_drew)); exact Kd.R_mono HO517.out (fun _ hk => hk.2)⟩, ⟨bz_⟩⟩
              case round =>
               clear H'
               try clear c1
               try clear c2
               try clear p2
               try clear p4
               try clear q4
               try clear hx4
               try clear c5
               try clear c6
               try clear p6
               try clear c10
               try clear c10b0
               try clear c11
               try clear c13
               try clear c13b0
               try clear c14
               try clear c14b0
               try clear c15
               try clear c19
               try clear c19b0
               try clear c19b1
               try clear c24
               try clear c24b0
               try clear c24b1
               try clear c27
               try clear hx499_0
               try clear hx499_1
               try clear hx499_2
               try clear hx499_3
               try clear hx499_4
               try clear p2
               try clear p4
               try clear p499
               try clear p6
               try clear q4
               try clear q499
               obtain ⟨x14_5, rfl, HA, HK5, HO_8, HO_10, HO_12, HO_13, HB⟩ := hrel
               cases gk with
               | zero => exact absurd HA.out (by simp [lockgatelaw06_FlowMoved.l2])
               | succ k5 =>
                have H := HA.out
                clear HA
                simp only [lockgatelaw06_FlowMoved.l2] at H
                by_cases c34 : x14_5 < (t503.length : Int)
                ·rw [if_pos c34] at H
                 have c34b0 : decide (x14_5 < (t503.length : Int)) = true := decide_eq_true c34
                 clear c34
                 by_cases c35 : 0 ≤ x14_5
                 ·rw [if_pos c35] at H
                  have c35b0 : decide (0 ≤ x14_5) = true := decide_eq_true c35
                  clear c35
                  by_cases c36 : (rd t503 x14_5) < 0
                  ·rw [if_pos c36] at H
                   have c36b0 : decide ((rd t503 x14_5) < 0) = true := decide_eq_true c36
                   clear c36
                   obtain ⟨ji37, hji37⟩ : ∃ j_ : Int, (wrap64 (t495 + x14_5)) = j_ := ⟨_, rfl⟩
                   replace H : (if 0 ≤ (ji37) then (if (ji37) < (t507.length : Int) then (if (rd t507 (ji37)) = (-1) then (if (rd t503 x14_5) ≥ 0 then (if (rd t507 (ji37)) = (wrap64 ((rd t503 x14_5) + t495)) then (if x14_5 < (t512.length : Int) then (if (ji37) < (t515.length : Int) then (if ((rdOf false t512 x14_5) != (rdOf false t515 (ji37))) = true then (some false) else (lockgatelaw06_FlowMoved.l2 k5 t495 t503 t507 t512 t515 (wrap64 (x14_5 + 1)))) else (none)) else (none)) else (some false)) else (if x14_5 < (t512.length : Int) then (if (ji37) < (t515.length : Int) then (if ((rdOf false t512 x14_5) != (rdOf false t515 (ji37))) = true then (some false) else (lockgatelaw06_FlowMoved.l2 k5 t495 t503 t507 t512 t515 (wrap64 (x14_5 + 1)))) else (none)) else (none))) else (some false)) else (none)) else (none)) = some r := by first | (rw [hji37] at H; exact H) | (simp only [hji37] at H ⊢; exact H)
                   have hji37w : (IntKind.i64.wrap (t495 + x14_5)) = ji37 := (i64_w _).trans hji37
                   by_cases c38 : 0 ≤ (ji37)
                   ·rw [if_pos c38] at H
                    have c38b0 : decide (0 ≤ (ji37)) = true := decide_eq_true c38
                    clear c38
                    by_cases c39 : (ji37) < (t507.length : Int)
                    ·rw [if_pos c39] at H
                     have c39b0 : decide ((ji37) < (t507.length : Int)) = true := decide_eq_true c39
                     clear c39
                     by_cases c40 : (rd t507 (ji37)) = (-1)
                     ·rw [if_pos c40] at H
                      have c40b0 : ((rd t507 (ji37)) == (-1)) = true := beq_iff_eq.mpr c40
                      have c40b1 : ((rd t507 (ji37)) != (-1)) = false := bne_eq_false_iff_eq.mpr c40
                      clear c40
                      by_cases c41 : (rd t503 x14_5) ≥ 0
                      ·rw [if_pos c41] at H
                       have c41b0 : decide (0 ≤ (rd t503 x14_5)) = true := decide_eq_true c41
                       clear c41
                       by_cases c42 : (rd t507 (ji37)) = (wrap64 ((rd t503 x14_5) + t495))
                       ·rw [if_pos c42] at H
                        have c42b0 : ((rd t507 (ji37)) == (wrap64 ((rd t503 x14_5) + t495))) = true := beq_iff_eq.mpr c42
                        have c42b1 : ((rd t507 (ji37)) != (wrap64 ((rd t503 x14_5) + t495))) = false := bne_eq_false_iff_eq.mpr c42
                        clear c42
                        by_cases c43 : x14_5 < (t512.length : Int)
                        ·rw [if_pos c43] at H
                         have c43b0 : decide (x14_5 < (t512.length : Int)) = true := decide_eq_true c43
                         clear c43
                         by_cases c44 : (ji37) < (t515.length : Int)
                         ·rw [if_pos c44] at H
                          have c44b0 : decide ((ji37) < (t515.length : Int)) = true := decide_eq_true c44
                          clear c44
                          by_cases c45 : ((rdOf false t512 x14_5) != (rdOf false t515 (ji37))) = true
                          ·rw [if_pos c45] at H
                           have c45b0 : ((rdOf false t512 x14_5) != (rdOf false t515 (ji37))) = true := c45
                           (try (have c45b1 : decide ((rdOf false t512 x14_5) = (rdOf false t515 (ji37))) = false := by simpa using c45))
                           (try (have c45b2 : ((rdOf false t512 x14_5) == (rdOf false t515 (ji37))) = false := by simpa using c45))
                           (try (have c45b3 : ¬ ((rdOf false t512 x14_5) = (rdOf false t515 (ji37))) := by simpa using c45))
                           clear c45
                           exact absurd ((Option.some.inj H).trans HRT.out) (by decide)
                          ·rw [if_neg c45] at H
                           have c45b0 : ((rdOf false t512 x14_5) != (rdOf false t515 (ji37))) = false := by simpa using c45
                           (try (have c45b1 : decide ((rdOf false t512 x14_5) = (rdOf false t515 (ji37))) = true := by simpa using c45))
                           (try (have c45b2 : ((rdOf false t512 x14_5) == (rdOf false t515 (ji37))) = true := by simpa using c45))
                           clear c45
                           have H' := Aside0.mk H
                           clear H
                           have p518 : 0 ≤ (x14_5 : Int) := of_decide_eq_true (by first | (with_reducible assumption) | assumption)
                           have q518 : x14_5 < (t503.length : Int) := of_decide_eq_true (by first | (with_reducible assumption) | assumption)
                           obtain ⟨ad518, e518, hx518_0⟩ := Kd.at_int (Kd.R_reads' HO_8.out).2.2 x14_5 p518 q518
                           cases e518
                           replace p518 := eq_true p518
                           replace q518 := eq_true q518
                           have p519 : 0 ≤ ((ji37) : Int) := of_decide_eq_true (by first | (with_reducible assumption) | assumption)
                           have q519 : (ji37) < (t507.length : Int) := of_decide_eq_true (by first | (with_reducible assumption) | assumption)
                           obtain ⟨ad519, e519, hx519_0⟩ := Kd.at_int (Kd.R_reads' HO_10.out).2.2 (ji37) p519 q519
                           cases e519
                           replace p519 := eq_true p519
                           replace q519 := eq_true q519
                           have p520 : 0 ≤ (x14_5 : Int) := of_decide_eq_true (by first | (with_reducible assumption) | assumption)
                           have q520 : x14_5 < (t503.length : Int) := of_decide_eq_true (by first | (with_reducible assumption) | assumption)
                           obtain ⟨ad520, e520, hx520_0⟩ := Kd.at_int (Kd.R_reads' HO_8.out).2.2 x14_5 p520 q520
                           obtain rfl : ad518 = ad520 := (by injection e520)
                           replace p520 := eq_true p520
                           replace q520 := eq_true q520
                           have p521 : 0 ≤ ((ji37) : Int) := of_decide_eq_true (by first | (with_reducible assumption) | assumption)
                           have q521 : (ji37) < (t507.length : Int) := of_decide_eq_true (by first | (with_reducible assumption) | assumption)
                           obtain ⟨ad521, e521, hx521_0⟩ := Kd.at_int (Kd.R_reads' HO_10.out).2.2 (ji37) p521 q521
                           obtain rfl : ad519 = ad521 := (by injection e521)
                           replace p521 := eq_true p521
                           replace q521 := eq_true q521
                           have p522 : 0 ≤ (x14_5 : Int) := of_decide_eq_true (by first | (with_reducible assumption) | assumption)
                           have q522 : x14_5 < (t503.length : Int) := of_decide_eq_true (by first | (with_reducible assumption) | assumption)
                           obtain ⟨ad522, e522, hx522_0⟩ := Kd.at_int (Kd.R_reads' HO_8.out).2.2 x14_5 p522 q522
                           obtain rfl : ad518 = ad522 := (by injection e522)
                           replace p522 := eq_true p522
                           replace q522 := eq_true q522
                           obtain ⟨Ao46, co46, eo46⟩ := Kd.R_slice HO_12.out
                           subst eo46
                           have p523 : 0 ≤ (x14_5 : Int) := of_decide_eq_true (by first | (with_reducible assumption) | assumption)
                           have q523 : x14_5 < (t512.length : Int) := of_decide_eq_true (by first | (with_reducible assumption) | assumption)
                           obtain ⟨ad523, e523, hx523_0⟩ := Kd.at_bool (Kd.R_reads' HO_12.out).2.2 x14_5 p523 q523
                           cases e523
                           replace p523 := eq_true p523
                           replace q523 := eq_true q523
                           obtain ⟨Ao47, co47, eo47⟩ := Kd.R_slice HO_13.out
                           subst eo47
                           have p524 : 0 ≤ ((ji37) : Int) := of_decide_eq_true (by first | (with_reducible assumption) | assumption)
                           have q524 : (ji37) < (t515.length : Int) := of_decide_eq_true (by first | (with_reducible assumption) | assumption)
                           obtain ⟨ad524, e524, hx524_0⟩ := Kd.at_bool (Kd.R_reads' HO_13.out).2.2 (ji37) p524 q524
                           cases e524
                           replace p524 := eq_true p524
                           replace q524 := eq_true q524
                           go_wp2
                           repeat (go_quiet (fail); try go_wp2)
                           go_roundg k5
                           case measure => have := HJ2.out; have := HK2.out; have := HK3.out; have := HJ19.out; have := HK5.out; omega
                           case rel => exact ⟨(wrap64 (x14_5 + 1)), (by first | rfl | (simp; done) | (simp [*]; done)), H', ⟨by have := HJ2.out; have := HK2.out; have := HK3.out; have := HJ19.out; have := HK5.out; omega⟩, ⟨by (with_reducible repeat (first | apply Kd.R_alloc | apply Kd.R_drewN | apply Kd.R_drew)); exact HO_8.out⟩, ⟨by (with_reducible repeat (first | apply Kd.R_alloc | apply Kd.R_drewN | apply Kd.R_drew)); exact HO_10.out⟩, ⟨by (with_reducible repeat (first | apply Kd.R_alloc | apply Kd.R_drewN | apply Kd.R_drew)); exact HO_12.out⟩, ⟨by (with_reducible repeat (first | apply Kd.R_alloc | apply Kd.R_drewN | apply Kd.R_drew)); exact HO_13.out⟩, ⟨bz_⟩⟩
                         ·rw [if_neg c44] at H
                          exact absurd H (by simp)
                        ·rw [if_neg c43] at H
                         exact absurd H (by simp)
                       ·rw [if_neg c42] at H
                        have c42b0 : ((rd t507 (ji37)) == (wrap64 ((rd t503 x14_5) + t495))) = false := beq_eq_false_iff_ne.mpr c42
                        have c42b1 : ((rd t507 (ji37)) != (wrap64 ((rd t503 x14_5) + t495))) = true := bne_iff_ne.mpr c42
                        exact absurd ((Option.some.inj H).trans HRT.out) (by decide)
                      ·rw [if_neg c41] at H
                       have c41b0 : decide (0 ≤ (rd t503 x14_5)) = false := decide_eq_false c41
                       clear c41
                       by_cases c48 : x14_5 < (t512.length : Int)
                       ·rw [if_pos c48] at H
                        have c48b0 : decide (x14_5 < (t512.length : Int)) = true := decide_eq_true c48
                        clear c48
                        by_cases c49 : (ji37) < (t515.length : Int)
                        ·rw [if_pos c49] at H
                         have c49b0 : decide ((ji37) < (t515.length : Int)) = true := decide_eq_true c49
                         clear c49
                         by_cases c50 : ((rdOf false t512 x14_5) != (rdOf false t515 (ji37))) = true
                         ·rw [if_pos c50] at H
                          have c50b0 : ((rdOf false t512 x14_5) != (rdOf false t515 (ji37))) = true := c50
                          (try (have c50b1 : decide ((rdOf false t512 x14_5) = (rdOf false t515 (ji37))) = false := by simpa using c50))
                          (try (have c50b2 : ((rdOf false t512 x14_5) == (rdOf false t515 (ji37))) = false := by simpa using c50))
                          (try (have c50b3 : ¬ ((rdOf false t512 x14_5) = (rdOf false t515 (ji37))) := by simpa using c50))
                          clear c50
                          exact absurd ((Option.some.inj H).trans HRT.out) (by decide)
                         ·rw [if_neg c50] at H
                          have c50b0 : ((rdOf false t512 x14_5) != (rdOf false t515 (ji37))) = false := by simpa using c50
                          (try (have c50b1 : decide ((rdOf false t512 x14_5) = (rdOf false t515 (ji37))) = true := by simpa using c50))
                          (try (have c50b2 : ((rdOf false t512 x14_5) == (rdOf false t515 (ji37))) = true := by simpa using c50))
                          clear c50
                          have H' := Aside0.mk H
                          clear H
                          have p518 : 0 ≤ (x14_5 : Int) := of_decide_eq_true (by first | (with_reducible assumption) | assumption)
                          have q518 : x14_5 < (t503.length : Int) := of_decide_eq_true (by first | (with_reducible assumption) | assumption)
                          obtain ⟨ad518, e518, hx518_0⟩ := Kd.at_int (Kd.R_reads' HO_8.out).2.2 x14_5 p518 q518
                          cases e518
                          replace p518 := eq_true p518
                          replace q518 := eq_true q518
                          have p519 : 0 ≤ ((ji37) : Int) := of_decide_eq_true (by first | (with_reducible assumption) | assumption)
                          have q519 : (ji37) < (t507.length : Int) := of_decide_eq_true (by first | (with_reducible assumption) | assumption)
                          obtain ⟨ad519, e519, hx519_0⟩ := Kd.at_int (Kd.R_reads' HO_10.out).2.2 (ji37) p519 q519
                          cases e519
                          replace p519 := eq_true p519
                          replace q519 := eq_true q519
                          have p520 : 0 ≤ (x14_5 : Int) := of_decide_eq_true (by first | (with_reducible assumption) | assumption)
                          have q520 : x14_5 < (t503.length : Int) := of_decide_eq_true (by first | (with_reducible assumption) | assumption)
                          obtain ⟨ad520, e520, hx520_0⟩ := Kd.at_int (Kd.R_reads' HO_8.out).2.2 x14_5 p520 q520
                          obtain rfl : ad518 = ad520 := (by injection e520)
                          replace p520 := eq_true p520
                          replace q520 := eq_true q520
                          obtain ⟨Ao51, co51, eo51⟩ := Kd.R_slice HO_12.out
                          subst eo51
                          have p525 : 0 ≤ (x14_5 : Int) := of_decide_eq_true (by first | (with_reducible assumption) | assumption)
                          have q525 : x14_5 < (t512.length : Int) := of_decide_eq_true (by first | (with_reducible assumption) | assumption)
                          obtain ⟨ad525, e525, hx525_0⟩ := Kd.at_bool (Kd.R_reads' HO_12.out).2.2 x14_5 p525 q525
                          cases e525
                          replace p525 := eq_true p525
                          replace q525 := eq_true q525
                          obtain ⟨Ao52, co52, eo52⟩ := Kd.R_slice HO_13.out
                          subst eo52
                          have p526 : 0 ≤ ((ji37) : Int) := of_decide_eq_true (by first | (with_reducible assumption) | assumption)
                          have q526 : (ji37) < (t515.length : Int) := of_decide_eq_true (by first | (with_reducible assumption) | assumption)
                          obtain ⟨ad526, e526, hx526_0⟩ := Kd.at_bool (Kd.R_reads' HO_13.out).2.2 (ji37) p526 q526
                          cases e526
                          replace p526 := eq_true p526
                          replace q526 := eq_true q526
                          go_wp2
                          repeat (go_quiet (fail); try go_wp2)
                          go_roundg k5
                          case measure => have := HJ2.out; have := HK2.out; have := HK3.out; have := HJ19.out; have := HK5.out; omega
                          case rel => exact ⟨(wrap64 (x14_5 + 1)), (by first | rfl | (simp; done) | (simp [*]; done)), H', ⟨by have := HJ2.out; have := HK2.out; have := HK3.out; have := HJ19.out; have := HK5.out; omega⟩, ⟨by (with_reducible repeat (first | apply Kd.R_alloc | apply Kd.R_drewN | apply Kd.R_drew)); exact HO_8.out⟩, ⟨by (with_reducible repeat (first | apply Kd.R_alloc | apply Kd.R_drewN | apply Kd.R_drew)); exact HO_10.out⟩, ⟨by (with_reducible repeat (first | apply Kd.R_alloc | apply Kd.R_drewN | apply Kd.R_drew)); exact HO_12.out⟩, ⟨by (with_reducible repeat (first | apply Kd.R_alloc | apply Kd.R_drewN | apply Kd.R_drew)); exact HO_13.out⟩, ⟨bz_⟩⟩
                        ·rw [if_neg c49] at H
                         exact absurd H (by simp)
                       ·rw [if_neg c48] at H
                        exact absurd H (by simp)
                     ·rw [if_neg c40] at H
                      have c40b0 : ((rd t507 (ji37)) == (-1)) = false := beq_eq_false_iff_ne.mpr c40
                      have c40b1 : ((rd t507 (ji37)) != (-1)) = true := bne_iff_ne.mpr c40
                      exact absurd ((Option.some.inj H).trans HRT.out) (by decide)
                    ·rw [if_neg c39] at H
                     exact absurd H (by simp)
                   ·rw [if_neg c38] at H
                    exact absurd H (by simp)
                  ·rw [if_neg c36] at H
                   have c36b0 : decide ((rd t503 x14_5) < 0) = false := decide_eq_false c36
                   clear c36
                   by_cases c53 : (rd t503 x14_5) ≥ 0
                   ·rw [if_pos c53] at H
                    have c53b0 : decide (0 ≤ (rd t503 x14_5)) = true := decide_eq_true c53
                    clear c53
                    obtain ⟨ji54, hji54⟩ : ∃ j_ : Int, (wrap64 (t495 + x14_5)) = j_ := ⟨_, rfl⟩
                    replace H : (if 0 ≤ (ji54) then (if (ji54) < (t507.length : Int) then (if (rd t507 (ji54)) = (wrap64 ((rd t503 x14_5) + t495)) then (if x14_5 < (t512.length : Int) then (if (ji54) < (t515.length : Int) then (if ((rdOf false t512 x14_5) != (rdOf false t515 (ji54))) = true then (some false) else (lockgatelaw06_FlowMoved.l2 k5 t495 t503 t507 t512 t515 (wrap64 (x14_5 + 1)))) else (none)) else (none)) else (some false)) else (none)) else (none)) = some r := by first | (rw [hji54] at H; exact H) | (simp only [hji54] at H ⊢; exact H)
                    have hji54w : (IntKind.i64.wrap (t495 + x14_5)) = ji54 := (i64_w _).trans hji54
                    by_cases c55 : 0 ≤ (ji54)
                    ·rw [if_pos c55] at H
                     have c55b0 : decide (0 ≤ (ji54)) = true := decide_eq_true c55
                     clear c55
                     by_cases c56 : (ji54) < (t507.length : Int)
                     ·rw [if_pos c56] at H
                      have c56b0 : decide ((ji54) < (t507.length : Int)) = true := decide_eq_true c56
                      clear c56
                      by_cases c57 : (rd t507 (ji54)) = (wrap64 ((rd t503 x14_5) + t495))
                      ·rw [if_pos c57] at H
                       have c57b0 : ((rd t507 (ji54)) == (wrap64 ((rd t503 x14_5) + t495))) = true := beq_iff_eq.mpr c57
                       have c57b1 : ((rd t507 (ji54)) != (wrap64 ((rd t503 x14_5) + t495))) = false := bne_eq_false_iff_eq.mpr c57
                       clear c57
                       by_cases c58 : x14_5 < (t512.length : Int)
                       ·rw [if_pos c58] at H
                        have c58b0 : decide (x14_5 < (t512.length : Int)) = true := decide_eq_true c58
                        clear c58
                        by_cases c59 : (ji54) < (t515.length : Int)
                        ·rw [if_pos c59] at H
                         have c59b0 : decide ((ji54) < (t515.length : Int)) = true := decide_eq_true c59
                         clear c59
                         by_cases c60 : ((rdOf false t512 x14_5) != (rdOf false t515 (ji54))) = true
                         ·rw [if_pos c60] at H
                          have c60b0 : ((rdOf false t512 x14_5) != (rdOf false t515 (ji54))) = true := c60
                          (try (have c60b1 : decide ((rdOf false t512 x14_5) = (rdOf false t515 (ji54))) = false := by simpa using c60))
                          (try (have c60b2 : ((rdOf false t512 x14_5) == (rdOf false t515 (ji54))) = false := by simpa using c60))
                          (try (have c60b3 : ¬ ((rdOf false t512 x14_5) = (rdOf false t515 (ji54))) := by simpa using c60))
                          clear c60
                          exact absurd ((Option.some.inj H).trans HRT.out) (by decide)
                         ·rw [if_neg c60] at H
                          have c60b0 : ((rdOf false t512 x14_5) != (rdOf false t515 (ji54))) = false := by simpa using c60
                          (try (have c60b1 : decide ((rdOf false t512 x14_5) = (rdOf false t515 (ji54))) = true := by simpa using c60))
                          (try (have c60b2 : ((rdOf false t512 x14_5) == (rdOf false t515 (ji54))) = true := by simpa using c60))
                          clear c60
                          have H' := Aside0.mk H
                          clear H
                          have p518 : 0 ≤ (x14_5 : Int) := of_decide_eq_true (by first | (with_reducible assumption) | assumption)
                          have q518 : x14_5 < (t503.length : Int) := of_decide_eq_true (by first | (with_reducible assumption) | assumption)
                          obtain ⟨ad518, e518, hx518_0⟩ := Kd.at_int (Kd.R_reads' HO_8.out).2.2 x14_5 p518 q518
                          cases e518
                          replace p518 := eq_true p518
                          replace q518 := eq_true q518
                          have p527 : 0 ≤ (x14_5 : Int) := of_decide_eq_true (by first | (with_reducible assumption) | assumption)
                          have q527 : x14_5 < (t503.length : Int) := of_decide_eq_true (by first | (with_reducible assumption) | assumption)
                          obtain ⟨ad527, e527, hx527_0⟩ := Kd.at_int (Kd.R_reads' HO_8.out).2.2 x14_5 p527 q527
                          obtain rfl : ad518 = ad527 := (by injection e527)
                          replace p527 := eq_true p527
                          replace q527 := eq_true q527
                          have p528 : 0 ≤ ((ji54) : Int) := of_decide_eq_true (by first | (with_reducible assumption) | assumption)
                          have q528 : (ji54) < (t507.length : Int) := of_decide_eq_true (by first | (with_reducible assumption) | assumption)
                          obtain ⟨ad528, e528, hx528_0⟩ := Kd.at_int (Kd.R_reads' HO_10.out).2.2 (ji54) p528 q528
                          cases e528
                          replace p528 := eq_true p528
                          replace q528 := eq_true q528
                          have p529 : 0 ≤ (x14_5 : Int) := of_decide_eq_true (by first | (with_reducible assumption) | assumption)
                          have q529 : x14_5 < (t503.length : Int) := of_decide_eq_true (by first | (with_reducible assumption) | assumption)
                          obtain ⟨ad529, e529, hx529_0⟩ := Kd.at_int (Kd.R_reads' HO_8.out).2.2 x14_5 p529 q529
                          obtain rfl : ad518 = ad529 := (by injection e529)
                          replace p529 := eq_true p529
                          replace q529 := eq_true q529
                          obtain ⟨Ao61, co61, eo61⟩ := Kd.R_slice HO_12.out
                          subst eo61
                          have p530 : 0 ≤ (x14_5 : Int) := of_decide_eq_true (by first | (with_reducible assumption) | assumption)
                          have q530 : x14_5 < (t512.length : Int) := of_decide_eq_true (by first | (with_reducible assumption) | assumption)
                          obtain ⟨ad530, e530, hx530_0⟩ := Kd.at_bool (Kd.R_reads' HO_12.out).2.2 x14_5 p530 q530
                          cases e530
                          replace p530 := eq_true p530
                          replace q530 := eq_true q530
                          obtain ⟨Ao62, co62, eo62⟩ := Kd.R_slice HO_13.out
                          subst eo62
                          have p531 : 0 ≤ ((ji54) : Int) := of_decide_eq_true (by first | (with_reducible assumption) | assumption)
                          have q531 : (ji54) < (t515.length : Int) := of_decide_eq_true (by first | (with_reducible assumption) | assumption)
                          obtain ⟨ad531, e531, hx531_0⟩ := Kd.at_bool (Kd.R_reads' HO_13.out).2.2 (ji54) p531 q531
                          cases e531
                          replace p531 := eq_true p531
                          replace q531 := eq_true q531
                          go_wp2
                          repeat (go_quiet (fail); try go_wp2)
                          go_roundg k5
                          case measure => have := HJ2.out; have := HK2.out; have := HK3.out; have := HJ19.out; have := HK5.out; omega
                          case rel => exact ⟨(wrap64 (x14_5 + 1)), (by first | rfl | (simp; done) | (simp [*]; done)), H', ⟨by have := HJ2.out; have := HK2.out; have := HK3.out; have := HJ19.out; have := HK5.out; omega⟩, ⟨by (with_reducible repeat (first | apply Kd.R_alloc | apply Kd.R_drewN | apply Kd.R_drew)); exact HO_8.out⟩, ⟨by (with_reducible repeat (first | apply Kd.R_alloc | apply Kd.R_drewN | apply Kd.R_drew)); exact HO_10.out⟩, ⟨by (with_reducible repeat (first | apply Kd.R_alloc | apply Kd.R_drewN | apply Kd.R_drew)); exact HO_12.out⟩, ⟨by (with_reducible repeat (first | apply Kd.R_alloc | apply Kd.R_drewN | apply Kd.R_drew)); exact HO_13.out⟩, ⟨bz_⟩⟩
                        ·rw [if_neg c59] at H
                         exact absurd H (by simp)
                       ·rw [if_neg c58] at H
                        exact absurd H (by simp)
                      ·rw [if_neg c57] at H
                       have c57b0 : ((rd t507 (ji54)) == (wrap64 ((rd t503 x14_5) + t495))) = false := beq_eq_false_iff_ne.mpr c57
                       have c57b1 : ((rd t507 (ji54)) != (wrap64 ((rd t503 x14_5) + t495))) = true := bne_iff_ne.mpr c57
                       exact absurd ((Option.some.inj H).trans HRT.out) (by decide)
                     ·rw [if_neg c56] at H
                      exact absurd H (by simp)
                    ·rw [if_neg c55] at H
                     exact absurd H (by simp)
                   ·rw [if_neg c53] at H
                    have c53b0 : decide (0 ≤ (rd t503 x14_5)) = false := decide_eq_false c53
                    clear c53
                    by_cases c63 : x14_5 < (t512.length : Int)
                    ·rw [if_pos c63] at H
                     have c63b0 : decide (x14_5 < (t512.length : Int)) = true := decide_eq_true c63
                     clear c63
                     obtain ⟨ji64, hji64⟩ : ∃ j_ : Int, (wrap64 (t495 + x14_5)) = j_ := ⟨_, rfl⟩
                     replace H : (if 0 ≤ (ji64) then (if (ji64) < (t515.length : Int) then (if ((rdOf false t512 x14_5) != (rdOf false t515 (ji64))) = true then (some false) else (lockgatelaw06_FlowMoved.l2 k5 t495 t503 t507 t512 t515 (wrap64 (x14_5 + 1)))) else (none)) else (none)) = some r := by first | (rw [hji64] at H; exact H) | (simp only [hji64] at H ⊢; exact H)
                     have hji64w : (IntKind.i64.wrap (t495 + x14_5)) = ji64 := (i64_w _).trans hji64
                     by_cases c65 : 0 ≤ (ji64)
                     ·rw [if_pos c65] at H
                      have c65b0 : decide (0 ≤ (ji64)) = true := decide_eq_true c65
                      clear c65
                      by_cases c66 : (ji64) < (t515.length : Int)
                      ·rw [if_pos c66] at H
                       have c66b0 : decide ((ji64) < (t515.length : Int)) = true := decide_eq_true c66
                       clear c66
                       by_cases c67 : ((rdOf false t512 x14_5) != (rdOf false t515 (ji64))) = true
                       ·rw [if_pos c67] at H
                        have c67b0 : ((rdOf false t512 x14_5) != (rdOf false t515 (ji64))) = true := c67
                        (try (have c67b1 : decide ((rdOf false t512 x14_5) = (rdOf false t515 (ji64))) = false := by simpa using c67))
                        (try (have c67b2 : ((rdOf false t512 x14_5) == (rdOf false t515 (ji64))) = false := by simpa using c67))
                        (try (have c67b3 : ¬ ((rdOf false t512 x14_5) = (rdOf false t515 (ji64))) := by simpa using c67))
                        clear c67
                        exact absurd ((Option.some.inj H).trans HRT.out) (by decide)
                       ·rw [if_neg c67] at H
                        have c67b0 : ((rdOf false t512 x14_5) != (rdOf false t515 (ji64))) = false := by simpa using c67
                        (try (have c67b1 : decide ((rdOf false t512 x14_5) = (rdOf false t515 (ji64))) = true := by simpa using c67))
                        (try (have c67b2 : ((rdOf false t512 x14_5) == (rdOf false t515 (ji64))) = true := by simpa using c67))
                        clear c67
                        have H' := Aside0.mk H
                        clear H
                        have p518 : 0 ≤ (x14_5 : Int) := of_decide_eq_true (by first | (with_reducible assumption) | assumption)
                        have q518 : x14_5 < (t503.length : Int) := of_decide_eq_true (by first | (with_reducible assumption) | assumption)
                        obtain ⟨ad518, e518, hx518_0⟩ := Kd.at_int (Kd.R_reads' HO_8.out).2.2 x14_5 p518 q518
                        cases e518
                        replace p518 := eq_true p518
                        replace q518 := eq_true q518
                        have p527 : 0 ≤ (x14_5 : Int) := of_decide_eq_true (by first | (with_reducible assumption) | assumption)
                        have q527 : x14_5 < (t503.length : Int) := of_decide_eq_true (by first | (with_reducible assumption) | assumption)
                        obtain ⟨ad527, e527, hx527_0⟩ := Kd.at_int (Kd.R_reads' HO_8.out).2.2 x14_5 p527 q527
                        obtain rfl : ad518 = ad527 := (by injection e527)
                        replace p527 := eq_true p527
                        replace q527 := eq_true q527
                        obtain ⟨Ao68, co68, eo68⟩ := Kd.R_slice HO_12.out
                        subst eo68
                        have p532 : 0 ≤ (x14_5 : Int) := of_decide_eq_true (by first | (with_reducible assumption) | assumption)
                        have q532 : x14_5 < (t512.length : Int) := of_decide_eq_true (by first | (with_reducible assumption) | assumption)
                        obtain ⟨ad532, e532, hx532_0⟩ := Kd.at_bool (Kd.R_reads' HO_12.out).2.2 x14_5 p532 q532
                        cases e532
                        replace p532 := eq_true p532
                        replace q532 := eq_true q532
                        obtain ⟨Ao69, co69, eo69⟩ := Kd.R_slice HO_13.out
                        subst eo69
                        have p533 : 0 ≤ ((ji64) : Int) := of_decide_eq_true (by first | (with_reducible assumption) | assumption)
                        have q533 : (ji64) < (t515.length : Int) := of_decide_eq_true (by first | (with_reducible assumption) | assumption)
                        obtain ⟨ad533, e533, hx533_0⟩ := Kd.at_bool (Kd.R_reads' HO_13.out).2.2 (ji64) p533 q533
                        cases e533
                        replace p533 := eq_true p533
                        replace q533 := eq_true q533
                        go_wp2
                        repeat (go_quiet (fail); try go_wp2)
                        go_roundg k5
                        case measure => have := HJ2.out; have := HK2.out; have := HK3.out; have := HJ19.out; have := HK5.out; omega
                        case rel => exact ⟨(wrap64 (x14_5 + 1)), (by first | rfl | (simp; done) | (simp [*]; done)), H', ⟨by have := HJ2.out; have := HK2.out; have := HK3.out; have := HJ19.out; have := HK5.out; omega⟩, ⟨by (with_reducible repeat (first | apply Kd.R_alloc | apply Kd.R_drewN | apply Kd.R_drew)); exact HO_8.out⟩, ⟨by (with_reducible repeat (first | apply Kd.R_alloc | apply Kd.R_drewN | apply Kd.R_drew)); exact HO_10.out⟩, ⟨by (with_reducible repeat (first | apply Kd.R_alloc | apply Kd.R_drewN | apply Kd.R_drew)); exact HO_12.out⟩, ⟨by (with_reducible repeat (first | apply Kd.R_alloc | apply Kd.R_drewN | apply Kd.R_drew)); exact HO_13.out⟩, ⟨bz_⟩⟩
                      ·rw [if_neg c66] at H
                       exact absurd H (by simp)
                     ·rw [if_neg c65] at H
                      exact absurd H (by simp)
                    ·rw [if_neg c63] at H
                     exact absurd H (by simp)
                 ·rw [if_neg c35] at H
                  exact absurd H (by simp)
                ·rw [if_neg c34] at H
                 have c34b0 : decide (x14_5 < (t503.length : Int)) = false := decide_eq_false c34
                 clear c34
                 replace H := Option.bind_eq_some_iff.mp H
                 obtain ⟨t534, A700, H⟩ := H
                 replace H : (some t534) = some r := H
                 have A70 := Aside0.mk A700
                 clear A700
                 obtain rfl := Option.some.inj H
                 go_wp2_with (first | (go_at_call 9; (with_reducible refine (lockgatelaw06_works.calls k5  t534 _ A70.out).mono ?_); rintro e w71 ⟨rfl, hb⟩; replace HO_8 := Aside0.mk (Kd.R_below (by (with_reducible repeat (first | apply Kd.R_alloc | apply Kd.R_drewN | apply Kd.R_drew)); exact HO_8.out) hb); replace HO_10 := Aside0.mk (Kd.R_below (by (with_reducible repeat (first | apply Kd.R_alloc | apply Kd.R_drewN | apply Kd.R_drew)); exact HO_10.out) hb); replace HO_12 := Aside0.mk (Kd.R_below (by (with_reducible repeat (first | apply Kd.R_alloc | apply Kd.R_drewN | apply Kd.R_drew)); exact HO_12.out) hb); replace HO_13 := Aside0.mk (Kd.R_below (by (with_reducible repeat (first | apply Kd.R_alloc | apply Kd.R_drewN | apply Kd.R_drew)); exact HO_13.out) hb); replace HB := bl_ hb; (try clear hb); (try clear hb2); (try clear hk); (try clear hi)))
                 repeat (go_quiet (first | (go_at_call 9; (with_reducible refine (lockgatelaw06_works.calls k5  t534 _ A70.out).mono ?_); rintro e w71 ⟨rfl, hb⟩; replace HO_8 := Aside0.mk (Kd.R_below (by (with_reducible repeat (first | apply Kd.R_alloc | apply Kd.R_drewN | apply Kd.R_drew)); exact HO_8.out) hb); replace HO_10 := Aside0.mk (Kd.R_below (by (with_reducible repeat (first | apply Kd.R_alloc | apply Kd.R_drewN | apply Kd.R_drew)); exact HO_10.out) hb); replace HO_12 := Aside0.mk (Kd.R_below (by (with_reducible repeat (first | apply Kd.R_alloc | apply Kd.R_drewN | apply Kd.R_drew)); exact HO_12.out) hb); replace HO_13 := Aside0.mk (Kd.R_below (by (with_reducible repeat (first | apply Kd.R_alloc | apply Kd.R_drewN | apply Kd.R_drew)); exact HO_13.out) hb); replace HB := bl_ hb; (try clear hb); (try clear hb2); (try clear hk); (try clear hi))); try go_wp2_with (first | (go_at_call 9; (with_reducible refine (lockgatelaw06_works.calls k5  t534 _ A70.out).mono ?_); rintro e w71 ⟨rfl, hb⟩; replace HO_8 := Aside0.mk (Kd.R_below (by (with_reducible repeat (first | apply Kd.R_alloc | apply Kd.R_drewN | apply Kd.R_drew)); exact HO_8.out) hb); replace HO_10 := Aside0.mk (Kd.R_below (by (with_reducible repeat (first | apply Kd.R_alloc | apply Kd.R_drewN | apply Kd.R_drew)); exact HO_10.out) hb); replace HO_12 := Aside0.mk (Kd.R_below (by (with_reducible repeat (first | apply Kd.R_alloc | apply Kd.R_drewN | apply Kd.R_drew)); exact HO_12.out) hb); replace HO_13 := Aside0.mk (Kd.R_below (by (with_reducible repeat (first | apply Kd.R_alloc | apply Kd.R_drewN | apply Kd.R_drew)); exact HO_13.out) hb); replace HB := bl_ hb; (try clear hb); (try clear hb2); (try clear hk); (try clear hi))))
                 go_ret
                 exact ⟨vv_, bz_⟩
          ·rw [if_neg c19] at H
           have c19b0 : (t504 == 0) = false := beq_eq_false_iff_ne.mpr c19
           have c19b1 : (t504 != 0) = true := bne_iff_ne.mpr c19
           replace H := Option.bind_eq_some_iff.mp H
           obtain ⟨t511, A720, H⟩ := H
           replace H : (some t511) = some r := H
           have A72 := Aside0.mk A720
           clear A720
           obtain rfl := Option.some.inj H
           go_wp2_with (first | (go_at_call 11; (with_reducible refine (flow_Targets.calls k3 _ _ l0 t503 t504 _ ?side1 ?side2 A17.out).mono ?_); (case side1 => repeat (first | exact (Kd.C_below HR0.out HB.out) | (with_reducible refine Kd.C_alloc ?_ _) | (with_reducible refine Kd.C_drewN ?_ _) | (with_reducible refine Kd.C_drew ?_))); (case side2 => exact HC0.out); rintro e w73 ⟨v505, rfl, ho0, hb⟩; have HO506 := Aside0.mk (Kd.R_lower ho0 (below_size bz_)); replace HO_5 := Aside0.mk (Kd.R_below (by (with_reducible repeat (first | apply Kd.R_alloc | apply Kd.R_drewN | apply Kd.R_drew)); exact HO_5.out) hb); replace HB := bl_ hb; (try clear hb); (try clear hb2); (try clear hk); (try clear hi); (try clear ho0); obtain ⟨Ao74, co74, eo74⟩ := Kd.R_slice HO_5.out; subst eo74) | (go_at_call 11; (with_reducible refine (flow_Targets.calls k3 _ _ x5_3 t507 t508 _ ?side1 ?side2 A18.out).mono ?_); (case side1 => repeat (first | exact (Kd.R_reads' HO_5.out).2.2 | (with_reducible refine Kd.C_alloc ?_ _) | (with_reducible refine Kd.C_drewN ?_ _) | (with_reducible refine Kd.C_drew ?_))); (case side2 => exact (Kd.R_reads' HO_5.out).2.1); rintro e w75 ⟨v509, rfl, ho0, hb⟩; have n0_ := Aside0.mk (Kd.R_below (by (with_reducible repeat (first | apply Kd.R_alloc | apply Kd.R_drewN | apply Kd.R_drew)); exact HO_5.out) hb); have n1_ := Aside0.mk (Kd.R_elder' (by (with_reducible repeat (first | apply Kd.R_alloc | apply Kd.R_drewN | apply Kd.R_drew)); exact HO506.out) (Kd.R_base ho0) hb); have n2_ := Aside0.mk (Kd.R_lower (Kd.R_new' ho0 (Kd.R_lt (by (with_reducible repeat (first | apply Kd.R_alloc | apply Kd.R_drewN | apply Kd.R_drew)); exact HO506.out))) (below_size bz_)); have n3_ := bl_ hb; clear HO_5; clear HO506; clear HB; have HO_5 := n0_; have HO506 := n1_; have HO510 := n2_; have HB := n3_; clear n0_ n1_ n2_ n3_; (try clear hb); (try clear hb2); (try clear hk); (try clear hi); (try clear ho0)) | (go_at_call 9; (with_reducible refine (lockgatelaw06_works.calls k3  t511 _ A72.out).mono ?_); rintro e w76 ⟨rfl, hb⟩; replace HO_5 := Aside0.mk (Kd.R_below (by (with_reducible repeat (first | apply Kd.R_alloc | apply Kd.R_drewN | apply Kd.R_drew)); exact HO_5.out) hb); replace HO506 := Aside0.mk (Kd.R_below (by (with_reducible repeat (first | apply Kd.R_alloc | apply Kd.R_drewN | apply Kd.R_drew)); exact HO506.out) hb); replace HO510 := Aside0.mk (Kd.R_below (by (with_reducible repeat (first | apply Kd.R_alloc | apply Kd.R_drewN | apply Kd.R_drew)); exact HO510.out) hb); replace HB := bl_ hb; (try clear hb); (try clear hb2); (try clear hk); (try clear hi)))
           repeat (go_quiet (first | (go_at_call 11; (with_reducible refine (flow_Targets.calls k3 _ _ l0 t503 t504 _ ?side1 ?side2 A17.out).mono ?_); (case side1 => repeat (first | exact (Kd.C_below HR0.out HB.out) | (with_reducible refine Kd.C_alloc ?_ _) | (with_reducible refine Kd.C_drewN ?_ _) | (with_reducible refine Kd.C_drew ?_))); (case side2 => exact HC0.out); rintro e w73 ⟨v505, rfl, ho0, hb⟩; have HO506 := Aside0.mk (Kd.R_lower ho0 (below_size bz_)); replace HO_5 := Aside0.mk (Kd.R_below (by (with_reducible repeat (first | apply Kd.R_alloc | apply Kd.R_drewN | apply Kd.R_drew)); exact HO_5.out) hb); replace HB := bl_ hb; (try clear hb); (try clear hb2); (try clear hk); (try clear hi); (try clear ho0); obtain ⟨Ao74, co74, eo74⟩ := Kd.R_slice HO_5.out; subst eo74) | (go_at_call 11; (with_reducible refine (flow_Targets.calls k3 _ _ x5_3 t507 t508 _ ?side1 ?side2 A18.out).mono ?_); (case side1 => repeat (first | exact (Kd.R_reads' HO_5.out).2.2 | (with_reducible refine Kd.C_alloc ?_ _) | (with_reducible refine Kd.C_drewN ?_ _) | (with_reducible refine Kd.C_drew ?_))); (case side2 => exact (Kd.R_reads' HO_5.out).2.1); rintro e w75 ⟨v509, rfl, ho0, hb⟩; have n0_ := Aside0.mk (Kd.R_below (by (with_reducible repeat (first | apply Kd.R_alloc | apply Kd.R_drewN | apply Kd.R_drew)); exact HO_5.out) hb); have n1_ := Aside0.mk (Kd.R_elder' (by (with_reducible repeat (first | apply Kd.R_alloc | apply Kd.R_drewN | apply Kd.R_drew)); exact HO506.out) (Kd.R_base ho0) hb); have n2_ := Aside0.mk (Kd.R_lower (Kd.R_new' ho0 (Kd.R_lt (by (with_reducible repeat (first | apply Kd.R_alloc | apply Kd.R_drewN | apply Kd.R_drew)); exact HO506.out))) (below_size bz_)); have n3_ := bl_ hb; clear HO_5; clear HO506; clear HB; have HO_5 := n0_; have HO506 := n1_; have HO510 := n2_; have HB := n3_; clear n0_ n1_ n2_ n3_; (try clear hb); (try clear hb2); (try clear hk); (try clear hi); (try clear ho0)) | (go_at_call 9; (with_reducible refine (lockgatelaw06_works.calls k3  t511 _ A72.out).mono ?_); rintro e w76 ⟨rfl, hb⟩; replace HO_5 := Aside0.mk (Kd.R_below (by (with_reducible repeat (first | apply Kd.R_alloc | apply Kd.R_drewN | apply Kd.R_drew)); exact HO_5.out) hb); replace HO506 := Aside0.mk (Kd.R_below (by (with_reducible repeat (first | apply Kd.R_alloc | apply Kd.R_drewN | apply Kd.R_drew)); exact HO506.out) hb); replace HO510 := Aside0.mk (Kd.R_below (by (with_reducible repeat (first | apply Kd.R_alloc | apply Kd.R_drewN | apply Kd.R_drew)); exact HO510.out) hb); replace HB := bl_ hb; (try clear hb); (try clear hb2); (try clear hk); (try clear hi))); try go_wp2_with (first | (go_at_call 11; (with_reducible refine (flow_Targets.calls k3 _ _ l0 t503 t504 _ ?side1 ?side2 A17.out).mono ?_); (case side1 => repeat (first | exact (Kd.C_below HR0.out HB.out) | (with_reducible refine Kd.C_alloc ?_ _) | (with_reducible refine Kd.C_drewN ?_ _) | (with_reducible refine Kd.C_drew ?_))); (case side2 => exact HC0.out); rintro e w73 ⟨v505, rfl, ho0, hb⟩; have HO506 := Aside0.mk (Kd.R_lower ho0 (below_size bz_)); replace HO_5 := Aside0.mk (Kd.R_below (by (with_reducible repeat (first | apply Kd.R_alloc | apply Kd.R_drewN | apply Kd.R_drew)); exact HO_5.out) hb); replace HB := bl_ hb; (try clear hb); (try clear hb2); (try clear hk); (try clear hi); (try clear ho0); obtain ⟨Ao74, co74, eo74⟩ := Kd.R_slice HO_5.out; subst eo74) | (go_at_call 11; (with_reducible refine (flow_Targets.calls k3 _ _ x5_3 t507 t508 _ ?side1 ?side2 A18.out).mono ?_); (case side1 => repeat (first | exact (Kd.R_reads' HO_5.out).2.2 | (with_reducible refine Kd.C_alloc ?_ _) | (with_reducible refine Kd.C_drewN ?_ _) | (with_reducible refine Kd.C_drew ?_))); (case side2 => exact (Kd.R_reads' HO_5.out).2.1); rintro e w75 ⟨v509, rfl, ho0, hb⟩; have n0_ := Aside0.mk (Kd.R_below (by (with_reducible repeat (first | apply Kd.R_alloc | apply Kd.R_drewN | apply Kd.R_drew)); exact HO_5.out) hb); have n1_ := Aside0.mk (Kd.R_elder' (by (with_reducible repeat (first | apply Kd.R_alloc | apply Kd.R_drewN | apply Kd.R_drew)); exact HO506.out) (Kd.R_base ho0) hb); have n2_ := Aside0.mk (Kd.R_lower (Kd.R_new' ho0 (Kd.R_lt (by (with_reducible repeat (first | apply Kd.R_alloc | apply Kd.R_drewN | apply Kd.R_drew)); exact HO506.out))) (below_size bz_)); have n3_ := bl_ hb; clear HO_5; clear HO506; clear HB; have HO_5 := n0_; have HO506 := n1_; have HO510 := n2_; have HB := n3_; clear n0_ n1_ n2_ n3_; (try clear hb); (try clear hb2); (try clear hk); (try clear hi); (try clear ho0)) | (go_at_call 9; (with_reducible refine (lockgatelaw06_works.calls k3  t511 _ A72.out).mono ?_); rintro e w76 ⟨rfl, hb⟩; replace HO_5 := Aside0.mk (Kd.R_below (by (with_reducible repeat (first | apply Kd.R_alloc | apply Kd.R_drewN | apply Kd.R_drew)); exact HO_5.out) hb); replace HO506 := Aside0.mk (Kd.R_below (by (with_reducible repeat (first | apply Kd.R_alloc | apply Kd.R_drewN | apply Kd.R_drew)); exact HO506.out) hb); replace HO510 := Aside0.mk (Kd.R_below (by (with_reducible repeat (first | apply Kd.R_alloc | apply Kd.R_drewN | apply Kd.R_drew)); exact HO510.out) hb); replace HB := bl_ hb; (try clear hb); (try clear hb2); (try clear hk); (try clear hi))))
           go_ret
           exact ⟨vv_, bz_⟩

end Go.Proofs.Ytkcneaaoghgllaa.PA
