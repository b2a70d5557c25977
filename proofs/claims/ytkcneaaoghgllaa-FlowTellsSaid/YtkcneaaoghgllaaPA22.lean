-- PRINTED by print.py (a twelfth state) out of the translation. Not trusted: Lean checks it.
import Derived.Test.YtkcneaaoghgllaaWTab
import Derived.Test.YtkcneaaoghgllaaWGuard
import Derived.Test.YtkcneaaoghgllaaPA0
import Derived.Test.YtkcneaaoghgllaaSq
import Derived.Test.YtkcneaaoghgllaaPA4
import Derived.Test.YtkcneaaoghgllaaPA5
import Derived.Test.YtkcneaaoghgllaaPA6
import Derived.Test.YtkcneaaoghgllaaPA17
import Derived.Test.YtkcneaaoghgllaaPA18
namespace Go.Proofs.Ytkcneaaoghgllaa.PA
open Go.RowKit Go.Proofs.YtkcneaaoghgllaaW.PrintWords Go.Proofs.YtkcneaaoghgllaaW.PrintLast Go.Proofs.YtkcneaaoghgllaaW.PrintMore
attribute [local go_sem] max2_int min2_int max_two min_two max_three min_three max_four min_four   -- for this text's walks alone
set_option linter.unusedVariables false
set_option linter.unusedSimpArgs false

/-! ### lockgatelaw06_FlowInside: function 5 -/
mutual
def lockgatelaw06_FlowInside.j0 : Nat → List (S42) → List Int → List Bool → Bool → Option (Bool)
 | 0, _, _, _, _ => none
 | k + 1, x0, x3, x5, x35 => if x35 = true then (some false) else (if 0 ≤ (x0.length : Int) then (if ((x0.length : Int) : Int).toNat ≤ 281474976710656 then ((some (List.replicate ((x0.length : Int) : Int).toNat false : List Bool)).bind fun y465 => (if 0 < (y465.length : Int) then (lockgatelaw06_FlowInside.l0 k x0 x3 x5 (y465.set (0 : Int).toNat true) 0) else (none))) else (none)) else (none))
def lockgatelaw06_FlowInside.l0 : Nat → List (S42) → List Int → List Bool → List Bool → Int → Option (Bool)
 | 0, _, _, _, _, _ => none
 | k + 1, x0, x3, x5, x6, x7 => if x7 < (x0.length : Int) then ((flow_Next.f k x0 x3 x7).bind fun t471 => (lockgatelaw06_FlowInside.l1 k x0 x3 x5 x6 x7 t471 0)) else ((lockgatelaw06_same.f k x5 x6).bind fun t469 => (if t469 = true then ((lockgatelaw06_works.f k).bind fun t470 => (some t470)) else (some false)))
def lockgatelaw06_FlowInside.l1 : Nat → List (S42) → List Int → List Bool → List Bool → Int → List Int → Int → Option (Bool)
 | 0, _, _, _, _, _, _, _ => none
 | k + 1, x0, x3, x5, x6, x7, x8, x9 => if x9 < (x8.length : Int) then (if 0 ≤ x9 then (if (rd x8 x9) < 0 then (some false) else (if (rd x8 x9) ≥ (x0.length : Int) then (some false) else (if 0 ≤ x7 then (if x7 < (x5.length : Int) then (if rdOf false x5 x7 = true then (if 0 ≤ (rd x8 x9) then (if (rd x8 x9) < (x5.length : Int) then (if (rdOf false x5 (rd x8 x9) = true) then (if (rd x8 x9) < (x6.length : Int) then (if rdOf false x6 (rd x8 x9) = true then (lockgatelaw06_FlowInside.l1 k x0 x3 x5 (x6.set ((rd x8 x9) : Int).toNat true) x7 x8 (wrap64 (x9 + 1))) else (lockgatelaw06_FlowInside.l1 k x0 x3 x5 (x6.set ((rd x8 x9) : Int).toNat (rdOf false x5 x7)) x7 x8 (wrap64 (x9 + 1)))) else (none)) else (some false)) else (none)) else (none)) else (if 0 ≤ (rd x8 x9) then (if (rd x8 x9) < (x6.length : Int) then (if rdOf false x6 (rd x8 x9) = true then (lockgatelaw06_FlowInside.l1 k x0 x3 x5 (x6.set ((rd x8 x9) : Int).toNat true) x7 x8 (wrap64 (x9 + 1))) else (lockgatelaw06_FlowInside.l1 k x0 x3 x5 (x6.set ((rd x8 x9) : Int).toNat (rdOf false x5 x7)) x7 x8 (wrap64 (x9 + 1)))) else (none)) else (none))) else (none)) else (none)))) else (none)) else (if (x8.length : Int) > 2 then (some false) else (if (x8.length : Int) = 2 then (if 0 < (x8.length : Int) then (if 1 < (x8.length : Int) then (if (rd x8 0) = (rd x8 1) then (some false) else (lockgatelaw06_FlowInside.l0 k x0 x3 x5 x6 (wrap64 (x7 + 1)))) else (none)) else (none)) else (lockgatelaw06_FlowInside.l0 k x0 x3 x5 x6 (wrap64 (x7 + 1)))))
end
def lockgatelaw06_FlowInside.f (k : Nat) (l0 : List (S42)) : Option (Bool) := (lockgatelaw06_right.f k l0).bind fun t454 => (if t454 = true then ((flow_Targets.f k l0).bind fun bt456 => (if bt456.2 = 0 then ((flow_Reached.f k l0 bt456.1).bind fun t461 => (if (t461.length : Int) = (l0.length : Int) then (if 0 < (t461.length : Int) then (lockgatelaw06_FlowInside.j0 k l0 bt456.1 t461 (!(rdOf false t461 0))) else (none)) else (lockgatelaw06_FlowInside.j0 k l0 bt456.1 t461 true))) else ((lockgatelaw06_works.f k).bind fun t460 => (some t460)))) else ((lockgatelaw06_works.f k).bind fun t455 => (some t455)))
theorem lockgatelaw06_FlowInside.mono_l : ∀ k, (∀ y0 y1 y2 y3, LeO (lockgatelaw06_FlowInside.j0 k y0 y1 y2 y3) (lockgatelaw06_FlowInside.j0 (k + 1) y0 y1 y2 y3)) ∧ (∀ y0 y1 y2 y3 y4, LeO (lockgatelaw06_FlowInside.l0 k y0 y1 y2 y3 y4) (lockgatelaw06_FlowInside.l0 (k + 1) y0 y1 y2 y3 y4)) ∧ (∀ y0 y1 y2 y3 y4 y5 y6, LeO (lockgatelaw06_FlowInside.l1 k y0 y1 y2 y3 y4 y5 y6) (lockgatelaw06_FlowInside.l1 (k + 1) y0 y1 y2 y3 y4 y5 y6))
 | 0 => ⟨fun _ _ _ _ r h => by simp [lockgatelaw06_FlowInside.j0] at h, fun _ _ _ _ _ r h => by simp [lockgatelaw06_FlowInside.l0] at h, fun _ _ _ _ _ _ _ r h => by simp [lockgatelaw06_FlowInside.l1] at h⟩
 | k + 1 => by
  obtain ⟨ih0, ih1, ih2⟩ := lockgatelaw06_FlowInside.mono_l k
  refine ⟨?_, ?_, ?_⟩
  ·intro y0 y1 y2 y3
   unfold lockgatelaw06_FlowInside.j0
   repeat' first
   | (with_reducible exact ih0 _ _ _ _)
   | (with_reducible exact ih1 _ _ _ _ _)
   | (with_reducible exact ih2 _ _ _ _ _ _ _)
   | (with_reducible exact flow_Next.mono _ _ _ _)
   | (with_reducible exact flow_Reached.mono _ _ _)
   | (with_reducible exact flow_Targets.mono _ _)
   | (with_reducible exact lockgatelaw06_right.mono _ _)
   | (with_reducible exact lockgatelaw06_same.mono _ _ _)
   | (with_reducible exact lockgatelaw06_works.mono _)
   | (with_reducible exact LeO.refl _)
   | (with_reducible exact LeO.none _)
   | (with_reducible refine LeO.ite ?_ ?_)
   | (with_reducible refine LeO.bind ?_ (fun _ => ?_))
   | exact ih0 _ _ _ _
   | exact ih1 _ _ _ _ _
   | exact ih2 _ _ _ _ _ _ _
   | exact flow_Next.mono _ _ _ _
   | exact flow_Reached.mono _ _ _
   | exact flow_Targets.mono _ _
   | exact lockgatelaw06_right.mono _ _
   | exact lockgatelaw06_same.mono _ _ _
   | exact lockgatelaw06_works.mono _
   | exact LeO.none _
   | refine LeO.ite ?_ ?_
   | refine LeO.bind ?_ (fun _ => ?_)
  ·intro y0 y1 y2 y3 y4
   unfold lockgatelaw06_FlowInside.l0
   repeat' first
   | (with_reducible exact ih0 _ _ _ _)
   | (with_reducible exact ih1 _ _ _ _ _)
   | (with_reducible exact ih2 _ _ _ _ _ _ _)
   | (with_reducible exact flow_Next.mono _ _ _ _)
   | (with_reducible exact flow_Reached.mono _ _ _)
   | (with_reducible exact flow_Targets.mono _ _)
   | (with_reducible exact lockgatelaw06_right.mono _ _)
   | (with_reducible exact lockgatelaw06_same.mono _ _ _)
   | (with_reducible exact lockgatelaw06_works.mono _)
   | (with_reducible exact LeO.refl _)
   | (with_reducible exact LeO.none _)
   | (with_reducible refine LeO.ite ?_ ?_)
   | (with_reducible refine LeO.bind ?_ (fun _ => ?_))
   | exact ih0 _ _ _ _
   | exact ih1 _ _ _ _ _
   | exact ih2 _ _ _ _ _ _ _
   | exact flow_Next.mono _ _ _ _
   | exact flow_Reached.mono _ _ _
   | exact flow_Targets.mono _ _
   | exact lockgatelaw06_right.mono _ _
   | exact lockgatelaw06_same.mono _ _ _
   | exact lockgatelaw06_works.mono _
   | exact LeO.none _
   | refine LeO.ite ?_ ?_
   | refine LeO.bind ?_ (fun _ => ?_)
  ·intro y0 y1 y2 y3 y4 y5 y6
   unfold lockgatelaw06_FlowInside.l1
   repeat' first
   | (with_reducible exact ih0 _ _ _ _)
   | (with_reducible exact ih1 _ _ _ _ _)
   | (with_reducible exact ih2 _ _ _ _ _ _ _)
   | (with_reducible exact flow_Next.mono _ _ _ _)
   | (with_reducible exact flow_Reached.mono _ _ _)
   | (with_reducible exact flow_Targets.mono _ _)
   | (with_reducible exact lockgatelaw06_right.mono _ _)
   | (with_reducible exact lockgatelaw06_same.mono _ _ _)
   | (with_reducible exact lockgatelaw06_works.mono _)
   | (with_reducible exact LeO.refl _)
   | (with_reducible exact LeO.none _)
   | (with_reducible refine LeO.ite ?_ ?_)
   | (with_reducible refine LeO.bind ?_ (fun _ => ?_))
   | exact ih0 _ _ _ _
   | exact ih1 _ _ _ _ _
   | exact ih2 _ _ _ _ _ _ _
   | exact flow_Next.mono _ _ _ _
   | exact flow_Reached.mono _ _ _
   | exact flow_Targets.mono _ _
   | exact lockgatelaw06_right.mono _ _
   | exact lockgatelaw06_same.mono _ _ _
   | exact lockgatelaw06_works.mono _
   | exact LeO.none _
   | refine LeO.ite ?_ ?_
   | refine LeO.bind ?_ (fun _ => ?_)
theorem lockgatelaw06_FlowInside.mono : ∀ a0 k, LeO (lockgatelaw06_FlowInside.f k a0) (lockgatelaw06_FlowInside.f (k + 1) a0) := by
 intro a0 k
 obtain ⟨ih0, ih1, ih2⟩ := lockgatelaw06_FlowInside.mono_l k
 unfold lockgatelaw06_FlowInside.f
 repeat' first
  | (with_reducible exact ih0 _ _ _ _)
  | (with_reducible exact ih1 _ _ _ _ _)
  | (with_reducible exact ih2 _ _ _ _ _ _ _)
  | (with_reducible exact flow_Next.mono _ _ _ _)
  | (with_reducible exact flow_Reached.mono _ _ _)
  | (with_reducible exact flow_Targets.mono _ _)
  | (with_reducible exact lockgatelaw06_right.mono _ _)
  | (with_reducible exact lockgatelaw06_same.mono _ _ _)
  | (with_reducible exact lockgatelaw06_works.mono _)
  | (with_reducible exact LeO.refl _)
  | (with_reducible exact LeO.none _)
  | (with_reducible refine LeO.ite ?_ ?_)
  | (with_reducible refine LeO.bind ?_ (fun _ => ?_))
  | exact ih0 _ _ _ _
  | exact ih1 _ _ _ _ _
  | exact ih2 _ _ _ _ _ _ _
  | exact flow_Next.mono _ _ _ _
  | exact flow_Reached.mono _ _ _
  | exact flow_Targets.mono _ _
  | exact lockgatelaw06_right.mono _ _
  | exact lockgatelaw06_same.mono _ _ _
  | exact lockgatelaw06_works.mono _
  | exact LeO.none _
  | refine LeO.ite ?_ ?_
  | refine LeO.bind ?_ (fun _ => ?_)
def lockgatelaw06_FlowInside.T20 : Bool × List (List Nat × List Nat) := (true, [([], []), ([], []), ([], []), ([1, 2], [1, 2]), ([3], [3]), ([], []), ([], []), ([], []), ([6, 7], [6, 7]), ([8], [8]), ([5, 9], [5, 9]), ([10], [10]), ([11], [11]), ([12], [12]), ([12], [12]), ([13, 14, 12], [12, 13, 14]), ([15, 12], [12, 15]), ([12, 16], [12, 16]), ([0, 4, 0, 1, 2, 3, 4, 5, 6, 7, 8, 9, 10, 11, 12, 13, 14, 15, 16, 17], [0, 4]), ([18, 17, 12, 0, 1, 2, 3, 4, 5, 6, 7, 8, 9, 10, 11, 12, 13, 14, 15, 16, 17], [17, 18])])
def lockgatelaw06_FlowInside.B20 : List Nat := [0, 0, 0, 6, 14, 0, 0, 0, 192, 448, 992, 2016, 4064, 8160, 8160, 32736, 65504, 131040, 262143, 524287]
theorem lockgatelaw06_FlowInside.tab20 : rtab .any (opsOf Try.f5 20) = lockgatelaw06_FlowInside.T20 := by kernel_rfl
theorem lockgatelaw06_FlowInside.bits20 : waitsOk lockgatelaw06_FlowInside.T20.2 lockgatelaw06_FlowInside.B20 = true := by kernel_rfl
def lockgatelaw06_FlowInside.T21 : Bool × List (List Nat × List Nat) := (true, [([], []), ([0], [0]), ([1], [1]), ([2], [2]), ([3], [3]), ([4, 3], [3, 4]), ([5, 3], [3, 5]), ([6, 3, 3], [3, 6]), ([7], [7]), ([8, 7], [7, 8]), ([9, 7], [7, 9]), ([7], [7]), ([11, 7], [7, 11]), ([12, 7], [7, 12]), ([10, 13, 7], [7, 10, 13]), ([7, 14, 3], [3, 7, 14]), ([3, 15], [3, 15])])
def lockgatelaw06_FlowInside.B21 : List Nat := [0, 1, 3, 7, 15, 31, 63, 127, 255, 511, 1023, 255, 2303, 6399, 16383, 32767, 65535]
theorem lockgatelaw06_FlowInside.tab21 : rtab .any (opsOf Try.f5 21) = lockgatelaw06_FlowInside.T21 := by kernel_rfl
theorem lockgatelaw06_FlowInside.bits21 : waitsOk lockgatelaw06_FlowInside.T21.2 lockgatelaw06_FlowInside.B21 = true := by kernel_rfl
set_option maxHeartbeats 8000000 in
set_option maxRecDepth 100000 in
theorem lockgatelaw06_FlowInside.calls (k : Nat) (A0 : Option Addr) (c0 : Nat) (l0 : List (S42)) (r : Bool) (w : World) (hr0 : Kd.C k42 w A0 l0.length l0) (hc0 : l0.length ≤ c0) (HRT : Aside0 (r = true)) (h : lockgatelaw06_FlowInside.f k l0 = some r) :
 Calls Try.prog 5 #[.slice A0 l0.length c0] w fun e w' => e = .returned (.bool r) ∧ Below w.heap.size w w' := by
 have HR0 := Aside0.mk hr0
 have HC0 := Aside0.mk hc0
 clear hr0 hc0
 have HB := Aside0.mk (Below.refl w.heap.size w)
 have H : ((lockgatelaw06_right.f k l0).bind fun t454 => (if t454 = true then ((flow_Targets.f k l0).bind fun bt456 => (if bt456.2 = 0 then ((flow_Reached.f k l0 bt456.1).bind fun t461 => (if (t461.length : Int) = (l0.length : Int) then (if 0 < (t461.length : Int) then (lockgatelaw06_FlowInside.j0 k l0 bt456.1 t461 (!(rdOf false t461 0))) else (none)) else (lockgatelaw06_FlowInside.j0 k l0 bt456.1 t461 true))) else ((lockgatelaw06_works.f k).bind fun t460 => (some t460)))) else ((lockgatelaw06_works.f k).bind fun t455 => (some t455)))) = some r := h
 clear h
 replace H := Option.bind_eq_some_iff.mp H
 obtain ⟨t454, A20, H⟩ := H
 replace H : (if t454 = true then ((flow_Targets.f k l0).bind fun bt456 => (if bt456.2 = 0 then ((flow_Reached.f k l0 bt456.1).bind fun t461 => (if (t461.length : Int) = (l0.length : Int) then (if 0 < (t461.length : Int) then (lockgatelaw06_FlowInside.j0 k l0 bt456.1 t461 (!(rdOf false t461 0))) else (none)) else (lockgatelaw06_FlowInside.j0 k l0 bt456.1 t461 true))) else ((lockgatelaw06_works.f k).bind fun t460 => (some t460)))) else ((lockgatelaw06_works.f k).bind fun t455 => (some t455))) = some r := H
 have A2 := Aside0.mk A20
 clear A20
 by_cases c3 : t454 = true
 ·subst c3
  have H1 : ((flow_Targets.f k l0).bind fun bt456 => (if bt456.2 = 0 then ((flow_Reached.f k l0 bt456.1).bind fun t461 => (if (t461.length : Int) = (l0.length : Int) then (if 0 < (t461.length : Int) then (lockgatelaw06_FlowInside.j0 k l0 bt456.1 t461 (!(rdOf false t461 0))) else (none)) else (lockgatelaw06_FlowInside.j0 k l0 bt456.1 t461 true))) else ((lockgatelaw06_works.f k).bind fun t460 => (some t460)))) = some r := by rw [if_pos rfl] at H; exact H
  clear H
  have H := H1
  clear H1
  replace H := Option.bind_eq_some_iff.mp H
  obtain ⟨⟨t456, t457⟩, A40, H⟩ := H
  replace H : (if t457 = 0 then ((flow_Reached.f k l0 t456).bind fun t461 => (if (t461.length : Int) = (l0.length : Int) then (if 0 < (t461.length : Int) then (lockgatelaw06_FlowInside.j0 k l0 t456 t461 (!(rdOf false t461 0))) else (none)) else (lockgatelaw06_FlowInside.j0 k l0 t456 t461 true))) else ((lockgatelaw06_works.f k).bind fun t460 => (some t460))) = some r := H
  have A4 := Aside0.mk A40
  clear A40
  by_cases c5 : t457 = 0
  ·rw [if_pos c5] at H
   have c5b0 : (t457 == 0) = true := beq_iff_eq.mpr c5
   have c5b1 : (t457 != 0) = false := bne_eq_false_iff_eq.mpr c5
   clear c5
   replace H := Option.bind_eq_some_iff.mp H
   obtain ⟨t461, A60, H⟩ := H
   replace H : (if (t461.length : Int) = (l0.length : Int) then (if 0 < (t461.length : Int) then (lockgatelaw06_FlowInside.j0 k l0 t456 t461 (!(rdOf false t461 0))) else (none)) else (lockgatelaw06_FlowInside.j0 k l0 t456 t461 true)) = some r := H
   have A6 := Aside0.mk A60
   clear A60
   have HC7 := Aside0.mk H
   clear H
   go_enter Try.func5, Try.ntmps5
   go_upto_region 7 with (first | ((with_reducible refine gate_callee (f := 8) rfl ?_); refine goesL_ (some 11) rfl rfl Try.func8 (by kernel_rfl) rfl #[.slice A0 l0.length c0] rfl mp_ ?_; (with_reducible refine (lockgatelaw06_right.calls k _ _ l0 true _ ?side1 ?side2 A2.out).mono ?_); (case side1 => repeat (first | exact HR0.out | (with_reducible refine Kd.C_alloc ?_ _) | (with_reducible refine Kd.C_drewN ?_ _) | (with_reducible refine Kd.C_drew ?_))); (case side2 => exact HC0.out); rintro e w' ⟨rfl, ⟨nd, rfl⟩⟩; refine ⟨_, rfl, ?_⟩) | ((with_reducible refine gate_callee (f := 11) rfl ?_); refine goesL_ (some 16) rfl rfl Try.func11 (by kernel_rfl) rfl #[.slice A0 l0.length c0] rfl mp_ ?_; (with_reducible refine (flow_Targets.calls k _ _ l0 t456 t457 _ ?side1 ?side2 A4.out).mono ?_); (case side1 => repeat (first | exact HR0.out | (with_reducible refine Kd.C_alloc ?_ _) | (with_reducible refine Kd.C_drewN ?_ _) | (with_reducible refine Kd.C_drew ?_))); (case side2 => exact HC0.out); rintro e w8 ⟨v458, rfl, ho0, hb⟩; refine ⟨_, rfl, ?_⟩; have HO459 := Aside0.mk (Kd.R_lower ho0 (below_size bz_)); replace HB := bl_ hb; (try clear hb); (try clear hb2); (try clear hk); (try clear hi); (try clear ho0); obtain ⟨Ao9, co9, eo9⟩ := Kd.R_slice HO459.out; subst eo9) | ((with_reducible refine gate_callee (f := 17) rfl ?_); refine goesL_ (some 24) rfl rfl Try.func17 (by kernel_rfl) rfl #[.slice A0 l0.length c0, .slice Ao9 t456.length co9] rfl mp_ ?_; (with_reducible refine (flow_Reached.calls k _ _ l0 _ _ t456 t461 _ ?side1 ?side2 ?side3 ?side4 A6.out).mono ?_); (case side1 => repeat (first | exact (Kd.C_below HR0.out HB.out) | (with_reducible refine Kd.C_alloc ?_ _) | (with_reducible refine Kd.C_drewN ?_ _) | (with_reducible refine Kd.C_drew ?_))); (case side2 => exact HC0.out); (case side3 => repeat (first | exact (Kd.R_reads' HO459.out).2.2 | (with_reducible refine Kd.C_alloc ?_ _) | (with_reducible refine Kd.C_drewN ?_ _) | (with_reducible refine Kd.C_drew ?_))); (case side4 => exact (Kd.R_reads' HO459.out).2.1); rintro e w10 ⟨v462, rfl, ho0, hb⟩; refine ⟨_, rfl, ?_⟩; have HO463 := Aside0.mk (Kd.R_lower ho0 (below_size bz_)); replace HO459 := Aside0.mk (Kd.R_below (by (with_reducible repeat (first | apply Kd.R_alloc | apply Kd.R_drewN | apply Kd.R_drew)); exact HO459.out) hb); replace HB := bl_ hb; (try clear hb); (try clear hb2); (try clear hk); (try clear hi); (try clear ho0)))
   (try simp only [Act.put, s1_, s2_, s3_])
   go_cut [35] (fun v35 wc => ∃ (kq : Nat) (x35_6 : Bool), v35 = .bool x35_6 ∧ Aside0 (lockgatelaw06_FlowInside.j0 kq l0 t456 t461 x35_6 = some r) ∧ Aside0 (kq ≤ k) ∧ Aside0 (Kd.R (Kd.int .i64) 3 wc w.heap.size (fun _ => True) (.slice Ao9 t456.length co9) t456) ∧ Aside0 (Kd.R Kd.bool 4 wc w.heap.size (fun _ => True) v462 t461) ∧ Aside0 (Below w.heap.size w wc))
   case first =>
    have H := HC7.out
    clear HC7
    by_cases c11 : (t461.length : Int) = (l0.length : Int)
    ·rw [if_pos c11] at H
     have c11b0 : ((t461.length : Int) == (l0.length : Int)) = true := beq_iff_eq.mpr c11
     have c11b1 : ((t461.length : Int) != (l0.length : Int)) = false := bne_eq_false_iff_eq.mpr c11
     have c11b2 : (t461.length == l0.length) = true := by first | simpa using c11 | (simp at c11 ⊢; omega)
     clear c11
     (first | rw [c11b0] | (simp only [i64_w, i32_w]; rw [c11b0]) | skip)
     by_cases c12 : 0 < (t461.length : Int)
     ·rw [if_pos c12] at H
      have c12b0 : decide (0 < (t461.length : Int)) = true := decide_eq_true c12
      have c12b1 : decide (0 < t461.length) = true := decide_eq_true (by omega)
      clear c12
      have H' := Aside0.mk H
      clear H
      obtain ⟨Ao13, co13, eo13⟩ := Kd.R_slice HO463.out
      subst eo13
      have p464 : 0 ≤ (0 : Int) := (by omega)
      have q464 : 0 < (t461.length : Int) := of_decide_eq_true (by first | (with_reducible assumption) | assumption)
      obtain ⟨ad464, e464, hx464_0⟩ := Kd.at_bool (Kd.R_reads' HO463.out).2.2 0 p464 q464
      cases e464
      have qi464 : (0 < t461.length) = True := eq_true (by omega)
      (try rw [show ((0 : Int)).toNat = 0 from rfl] at hx464_0)
      (try rw [Addr.add_zero'] at hx464_0)
      replace p464 := eq_true p464
      replace q464 := eq_true q464
      go_wp2
      go_meet
      case rel => exact ⟨_, (!(rdOf false t461 0)), (by first | rfl | (simp; done) | (simp [*]; done)), H', ⟨by first | omega | exact Nat.le_refl _⟩, ⟨by (with_reducible repeat (first | apply Kd.R_alloc | apply Kd.R_drewN | apply Kd.R_drew)); exact HO459.out⟩, ⟨by (with_reducible repeat (first | apply Kd.R_alloc | apply Kd.R_drewN | apply Kd.R_drew)); exact HO463.out⟩, ⟨bz_⟩⟩
     ·rw [if_neg c12] at H
      exact absurd H (by simp)
    ·rw [if_neg c11] at H
     have c11b0 : ((t461.length : Int) == (l0.length : Int)) = false := beq_eq_false_iff_ne.mpr c11
     have c11b1 : ((t461.length : Int) != (l0.length : Int)) = true := bne_iff_ne.mpr c11
     have c11b2 : (t461.length == l0.length) = false := by first | simpa using c11 | (simp at c11 ⊢; omega)
     (first | rw [c11b0] | (simp only [i64_w, i32_w]; rw [c11b0]) | skip)
     exfalso
     cases k with
     | zero => rw [lockgatelaw06_FlowInside.j0] at H; exact nomatch H
     | succ q_ => rw [lockgatelaw06_FlowInside.j0, if_pos rfl] at H; exact absurd ((Option.some.inj H).trans HRT.out) (by decide)
   case rest =>
    clear HC7
    try clear c1
    try clear p2
    try clear c3
    try clear p4
    try clear q4
    try clear hx4
    try clear qi4
    try clear c5
    try clear c5b0
    try clear c5b1
    try clear c8
    try clear c11
    try clear c11b0
    try clear c11b1
    try clear c11b2
    try clear c12
    try clear c12b0
    try clear c12b1
    try clear hx464_0
    try clear p464
    try clear q464
    obtain ⟨kq, x35_6, rfl, HA, HJ6, HO_3, HO_5, HB⟩ := hcut
    cases kq with
    | zero => exact absurd HA.out (by simp [lockgatelaw06_FlowInside.j0])
    | succ kj6 =>
     have H := HA.out
     clear HA
     simp only [lockgatelaw06_FlowInside.j0] at H
     by_cases c14 : x35_6 = true
     ·subst c14
      have H1 : (some false) = some r := by rw [if_pos rfl] at H; exact H
      clear H
      have H := H1
      clear H1
      exact absurd ((Option.some.inj H).trans HRT.out) (by decide)
     ·replace c14 := Bool.eq_false_iff.mpr c14
      subst c14
      have H1 : (if 0 ≤ (l0.length : Int) then (if ((l0.length : Int) : Int).toNat ≤ 281474976710656 then ((some (List.replicate ((l0.length : Int) : Int).toNat false : List Bool)).bind fun y465 => (if 0 < (y465.length : Int) then (lockgatelaw06_FlowInside.l0 kj6 l0 t456 t461 (y465.set (0 : Int).toNat true) 0) else (none))) else (none)) else (none)) = some r := by rw [if_neg (show ¬ (false = true) by decide)] at H; exact H
      clear H
      have H := H1
      clear H1
      by_cases c15 : 0 ≤ (l0.length : Int)
      ·rw [if_pos c15] at H
       have c15b0 := eq_true c15
       have c15b1 : decide (0 ≤ (l0.length : Int)) = true := decide_eq_true c15
       clear c15
       by_cases c16 : ((l0.length : Int) : Int).toNat ≤ 281474976710656
       ·rw [if_pos c16] at H
        have c16b0 := eq_true c16
        have c16b1 : decide (((l0.length : Int) : Int).toNat ≤ 281474976710656) = true := decide_eq_true c16
        clear c16
        obtain ⟨y465, hy465⟩ : ∃ y_ : List Bool, y_ = (List.replicate ((l0.length : Int) : Int).toNat false) := ⟨_, rfl⟩
        replace H : (if 0 < (y465.length : Int) then (lockgatelaw06_FlowInside.l0 kj6 l0 t456 t461 (y465.set (0 : Int).toNat true) 0) else (none)) = some r := by first | (rw [hy465]; with_reducible exact H) | (have H2_ := (Option.bind_some _ _).symm.trans H; rw [hy465]; with_reducible exact H2_) | (have H2_ := (Option.bind_some _ _).symm.trans H; with_reducible exact H2_) | with_reducible exact H | (rw [hy465]; exact H) | exact H
        have Ny465 := Aside0.mk hy465
        clear hy465
        by_cases c17 : 0 < (y465.length : Int)
        ·rw [if_pos c17] at H
         have c17b0 : decide (0 < (y465.length : Int)) = true := decide_eq_true c17
         have c17b1 : decide (0 < y465.length) = true := decide_eq_true (by omega)
         clear c17
         obtain ⟨y468, hy468⟩ : ∃ y_ : List Bool, y_ = (y465.set (0 : Int).toNat true) := ⟨_, rfl⟩
         replace H : (lockgatelaw06_FlowInside.l0 kj6 l0 t456 t461 y468 0) = some r := by first | (rw [hy468]; with_reducible exact H) | (have H2_ := (Option.bind_some _ _).symm.trans H; rw [hy468]; with_reducible exact H2_) | (have H2_ := (Option.bind_some _ _).symm.trans H; with_reducible exact H2_) | with_reducible exact H | (rw [hy468]; exact H) | exact H
         have Ny468 := Aside0.mk hy468
         clear hy468
         have H' := Aside0.mk H
         clear H
         go_wp2_with (first | ((with_reducible refine gate_dst (N := 38) rfl ?_); (try (refine gate_guard (by rfl) ?_; dsimp only)); refine Kd.R_make Kd.bool _ 4 rfl (N := 38) rfl 33 _ _ rfl (l0.length : Int) rfl rfl Try.underlying33 (.bool false) 1 info4 rfl (by decide) (by omega) false (ok := fun _ => True) (okp := fun _ => True) rfl (fun _ hk => hk) trivial (of_decide_eq_true (by first | (with_reducible assumption) | assumption)) (Nat.le_trans (Nat.mul_le_mul_right _ (of_decide_eq_true (by first | (with_reducible assumption) | assumption) : (l0.length : Int).toNat ≤ 281474976710656)) (by omega)) (Below.refl _ _) (Nat.le_refl _) ?_; intro v466 w19 ho20 hb hg_ hnew_; clear hg_ hnew_; (first | rw [← Ny465.out] at ho20 | (simp only [Int.reduceToNat] at ho20; rw [← Ny465.out] at ho20)); have n0_ := Aside0.mk (Kd.R_below (by (with_reducible repeat (first | apply Kd.R_alloc | apply Kd.R_drewN | apply Kd.R_drew)); exact HO_3.out) hb); have n1_ := Aside0.mk (Kd.R_elder' (by (with_reducible repeat (first | apply Kd.R_alloc | apply Kd.R_drewN | apply Kd.R_drew)); exact HO_5.out) (Kd.R_base ho20) hb); have n2_ := Aside0.mk (Kd.R_lower (Kd.R_new' ho20 (Kd.R_lt (by (with_reducible repeat (first | apply Kd.R_alloc | apply Kd.R_drewN | apply Kd.R_drew)); exact HO_5.out))) (below_size bz_)); have n3_ := bl_ hb; clear HO_3; clear HO_5; clear HB; have HO_3 := n0_; have HO_5 := n1_; have HO467 := n2_; have HB := n3_; clear n0_ n1_ n2_ n3_; clear hb ho20; have p18 : 0 ≤ (0 : Int) := (by omega); have q18 : (0 : Int) < ((y465.length : Int) : Int) := of_decide_eq_true (by first | (with_reducible assumption) | assumption); have qi18 : (0 < y465.length) = True := eq_true (by omega); obtain ⟨go18, co18, eo18, gb18, gl18, cl18, HG18⟩ := Kd.R_form HO467.out (by omega); (first | cases eo18 | (injection eo18 with ea_ en_ ec_; (first | subst ea_ | (injection ea_ with ea_; subst ea_)); subst ec_; clear en_)); have GB18 := Aside0.mk gb18; have GG18 := Aside0.mk HG18; clear gb18 gl18 HG18; obtain ⟨hx18_0, hf18_0⟩ := Kd.R_celln false HO467.out (0 : Int) p18 q18; (try rw [show ((0 : Int)).toNat = 0 from rfl] at hx18_0); (try simp only [Nat.reduceMul, Nat.zero_mul, Nat.zero_add, Nat.reduceAdd] at hx18_0); (try rw [show ((0 : Int)).toNat = 0 from rfl] at hf18_0); (try simp only [Nat.reduceMul, Nat.zero_mul, Nat.zero_add, Nat.reduceAdd] at hf18_0); replace p18 := eq_true p18; replace q18 := eq_true q18; have n_ := Aside0.mk (Kd.R_mono (ok' := (fun k_ => some k_ ≠ (v462 : Value).ownBlock)) HO467.out (fun k_ hk => hk.2)); clear HO467; have HO467 := n_; clear n_; obtain ⟨hy21_, hz21_⟩ := Kd.R_celln false HO467.out (0 : Int) (by omega) (of_decide_eq_true (by first | (with_reducible assumption) | assumption)); (try simp only [Int.reduceToNat, Int.toNat_zero, Int.toNat_ofNat, Nat.reduceMul, Nat.zero_mul, Nat.zero_add] at hy21_ hz21_); (try rw [show ((0 : Int)).toNat = 0 from rfl] at hy21_); (try rw [show ((0 : Int)).toNat = 0 from rfl] at hz21_); have HP21 := Kd.R_putg HO467.out (0 : Int) true) | ((with_reducible refine gate_store (t := 4) (p := 40) rfl ?_); refine store_event (t := 4) (p := 40) (v := ?vo_w22) (w1 := (w19.setCell ⟨go18, (0 : Int).toNat, none⟩ (.bool true))) ?hg ?ho ?hn ?hr ?_; (case ho => rfl); (case hg => rfl); (case hn => rfl); (case hr => first | (go_simp; done) | (go_simp; rfl)); intro w22 hw; have hg : w19.grownBy w22 (some go18) := (by rw [hw]; exact HP21.2); have hp_ : Kd.R Kd.bool 4 w22 w.heap.size (fun k_ => some k_ ≠ (v462 : Value).ownBlock) (.slice (some ⟨go18, 0, none⟩) y465.length co18) y468 := (by rw [hw, Ny468.out]; exact HP21.1); clear HP21; have n0_ := Aside0.mk (Kd.R_over' (v := (.slice (some ⟨go18, 0, none⟩) y465.length co18)) (by (with_reducible repeat (first | apply Kd.R_alloc | apply Kd.R_drewN | apply Kd.R_drew)); exact HO_3.out) (Kd.R_typed HO467.out) (by decide) hg); have n1_ := Aside0.mk (Kd.R_after (v := (.slice (some ⟨go18, 0, none⟩) y465.length co18)) (v1 := (.slice (some ⟨go18, 0, none⟩) y465.length co18)) (ok := (fun _ => True)) (by (with_reducible repeat (first | apply Kd.R_alloc | apply Kd.R_drewN | apply Kd.R_drew)); exact HO_5.out) hg (.inl rfl)); have n2_ := Aside0.mk (hp_); have n3_ := Aside0.mk ((by rw [hw]; exact below_set (HB.out) GB18.out : Below w.heap.size w w22)); clear HO_3; clear HO_5; clear HO467; clear HB; have HO_3 := n0_; have HO_5 := n1_; have HO467 := n2_; have HB := n3_; clear n0_ n1_ n2_ n3_; clear hg hw hp_))
         go_loopg [7] kj6 (fun kq v7 w' => ∃ (x6_2 : List Bool) (x7_2 : Int), v7 = .int .i64 x7_2 ∧ Aside0 (lockgatelaw06_FlowInside.l0 kq l0 t456 t461 x6_2 x7_2 = some r) ∧ Aside0 (kq ≤ kj6) ∧ Aside0 (Kd.R (Kd.int .i64) 3 w' w.heap.size (fun _ => True) (.slice Ao9 t456.length co9) t456) ∧ Aside0 (Kd.R Kd.bool 4 w' w.heap.size (fun k_ => some k_ ≠ ((.slice (some ⟨go18, 0, none⟩) y465.length co18) : Value).ownBlock) v462 t461) ∧ Aside0 (Kd.R Kd.bool 4 w' w.heap.size (fun k_ => some k_ ≠ (v462 : Value).ownBlock) (.slice (some ⟨go18, 0, none⟩) y465.length co18) x6_2) ∧ Aside0 (Below w.heap.size w w'))
         case atStart => exact ⟨(y468), (0), (by first | rfl | (simp; done) | (simp [*]; done)), H', ⟨Nat.le_refl _⟩, ⟨by (with_reducible repeat (first | apply Kd.R_alloc | apply Kd.R_drewN | apply Kd.R_drew)); exact HO_3.out⟩, ⟨by (with_reducible repeat (first | apply Kd.R_alloc | apply Kd.R_drewN | apply Kd.R_drew)); exact Kd.R_mono HO_5.out (fun _ hk => hk.2)⟩, ⟨by (with_reducible repeat (first | apply Kd.R_alloc | apply Kd.R_drewN | apply Kd.R_drew)); exact HO467.out⟩, ⟨bz_⟩⟩
         case round =>
          clear H'
          try clear c1
          try clear p1
          try clear q1
          try clear hx1
          try clear qi1
          try clear hf1
          try clear p2
          try clear c3
          try clear p4
          try clear q4
          try clear hx4
          try clear qi4
          try clear c5
          try clear c5b0
          try clear c5b1
          try clear c8
          try clear c11
          try clear c11b0
          try clear c11b1
          try clear c11b2
          try clear c12
          try clear c12b0
          try clear c12b1
          try clear c14
          try clear c15
          try clear c15b0
          try clear c15b1
          try clear c16
          try clear c16b0
          try clear c16b1
          try clear c17
          try clear c17b0
          try clear c17b1
          try clear p18
          try clear q18
          try clear hx18
          try clear qi18
          try clear hf18
          try clear hx18_0
          try clear hx464_0
          try clear p18
          try clear p2
          try clear p4
          try clear p464
          try clear q18
          try clear q4
          try clear q464
          obtain ⟨x6_2, x7_2, rfl, HA, HK2, HO_3, HO_5, HO_6, HB⟩ := hrel
          have hl6_2 := (Kd.R_reads' HO_6.out).1
          rw [hl6_2] at HO_6
          (try simp only [hl6_2])
          (try simp only [hl6_2] at HO_3)
          (try simp only [hl6_2] at HO_5)
          cases gk with
          | zero => exact absurd HA.out (by simp [lockgatelaw06_FlowInside.l0])
          | succ k2 =>
           have H := HA.out
           clear HA
           simp only [lockgatelaw06_FlowInside.l0] at H
           by_cases c23 : x7_2 < (l0.length : Int)
           ·rw [if_pos c23] at H
            have c23b0 : decide (x7_2 < (l0.length : Int)) = true := decide_eq_true c23
            clear c23
            replace H := Option.bind_eq_some_iff.mp H
            obtain ⟨t471, A240, H⟩ := H
            replace H : (lockgatelaw06_FlowInside.l1 k2 l0 t456 t461 x6_2 x7_2 t471 0) = some r := H
            have A24 := Aside0.mk A240
            clear A240
            have H' := Aside0.mk H
            clear H
            go_wp2_with (first | ((with_reducible refine gate_callee (f := 15) rfl ?_); refine goesL_ (some 50) rfl rfl Try.func15 (by kernel_rfl) rfl #[.slice A0 l0.length c0, .slice Ao9 t456.length co9, .int .i64 x7_2] rfl mp_ ?_; (with_reducible refine (flow_Next.calls k2 _ _ l0 _ _ t456 x7_2 t471 _ ?side1 ?side2 ?side3 ?side4 A24.out).mono ?_); (case side1 => repeat (first | exact (Kd.C_below HR0.out HB.out) | (with_reducible refine Kd.C_alloc ?_ _) | (with_reducible refine Kd.C_drewN ?_ _) | (with_reducible refine Kd.C_drew ?_))); (case side2 => exact HC0.out); (case side3 => repeat (first | exact (Kd.R_reads' HO_3.out).2.2 | (with_reducible refine Kd.C_alloc ?_ _) | (with_reducible refine Kd.C_drewN ?_ _) | (with_reducible refine Kd.C_drew ?_))); (case side4 => exact (Kd.R_reads' HO_3.out).2.1); rintro e w25 ⟨v472, rfl, ho0, hb⟩; refine ⟨_, rfl, ?_⟩; have n0_ := Aside0.mk (Kd.R_elder' (by (with_reducible repeat (first | apply Kd.R_alloc | apply Kd.R_drewN | apply Kd.R_drew)); exact HO_3.out) (Kd.R_base ho0) hb); have n1_ := Aside0.mk (Kd.R_below (by (with_reducible repeat (first | apply Kd.R_alloc | apply Kd.R_drewN | apply Kd.R_drew)); exact HO_5.out) hb); have n2_ := Aside0.mk (Kd.R_below (by (with_reducible repeat (first | apply Kd.R_alloc | apply Kd.R_drewN | apply Kd.R_drew)); exact HO_6.out) hb); have n3_ := Aside0.mk (Kd.R_lower (Kd.R_new' ho0 (Kd.R_lt (by (with_reducible repeat (first | apply Kd.R_alloc | apply Kd.R_drewN | apply Kd.R_drew)); exact HO_3.out))) (below_size bz_)); have n4_ := bl_ hb; clear HO_3; clear HO_5; clear HO_6; clear HB; have HO_3 := n0_; have HO_5 := n1_; have HO_6 := n2_; have HO473 := n3_; have HB := n4_; clear n0_ n1_ n2_ n3_ n4_; (try clear hb); (try clear hb2); (try clear hk); (try clear hi); (try clear ho0)))
            go_loopg [9] k2 (fun kq v9 w' => ∃ (x6_3 : List Bool) (x9_3 : Int), v9 = .int .i64 x9_3 ∧ Aside0 (lockgatelaw06_FlowInside.l1 kq l0 t456 t461 x6_3 x7_2 t471 x9_3 = some r) ∧ Aside0 (kq ≤ k2) ∧ Aside0 (Kd.R (Kd.int .i64) 3 w' w.heap.size (fun k_ => some k_ ≠ (v472 : Value).ownBlock) (.slice Ao9 t456.length co9) t456) ∧ Aside0 (Kd.R Kd.bool 4 w' w.heap.size (fun k_ => some k_ ≠ ((.slice (some ⟨go18, 0, none⟩) x6_2.length co18) : Value).ownBlock) v462 t461) ∧ Aside0 (Kd.R Kd.bool 4 w' w.heap.size (fun k_ => some k_ ≠ (v462 : Value).ownBlock) (.slice (some ⟨go18, 0, none⟩) x6_2.length co18) x6_3) ∧ Aside0 (Kd.R (Kd.int .i64) 3 w' w.heap.size (fun k_ => some k_ ≠ ((.slice Ao9 t456.length co9) : Value).ownBlock) v472 t471) ∧ Aside0 (Below w.heap.size w w'))
            case atStart => exact ⟨(x6_2), (0), (by first | rfl | (simp; done) | (simp [*]; done)), H', ⟨Nat.le_refl _⟩, ⟨by (try simp only [hl6_2]); (with_reducible repeat (first | apply Kd.R_alloc | apply Kd.R_drewN | apply Kd.R_drew)); exact Kd.R_mono HO_3.out (fun _ hk => hk.2)⟩, ⟨by (try simp only [hl6_2]); (with_reducible repeat (first | apply Kd.R_alloc | apply Kd.R_drewN | apply Kd.R_drew)); exact HO_5.out⟩, ⟨by (try simp only [hl6_2]); (with_reducible repeat (first | apply Kd.R_alloc | apply Kd.R_drewN | apply Kd.R_drew)); exact HO_6.out⟩, ⟨by (try simp only [hl6_2]); (with_reducible repeat (first | apply Kd.R_alloc | apply Kd.R_drewN | apply Kd.R_drew)); exact Kd.R_mono HO473.out (fun _ hk => hk.2)⟩, ⟨bz_⟩⟩
            case round =>
             clear H'
             try clear c1
             try clear p1
             try clear q1
             try clear hx1
             try clear qi1
             try clear hf1
             try clear c2
             try clear p2
             try clear c3
             try clear p4
             try clear q4
             try clear hx4
             try clear qi4
             try clear c5
             try clear c5b0
             try clear c5b1
             try clear c8
             try clear c11
             try clear c11b0
             try clear c11b1
             try clear c11b2
             try clear c12
             try clear c12b0
             try clear c12b1
             try clear c14
             try clear c15
             try clear c15b0
             try clear c15b1
             try clear c16
             try clear c16b0
             try clear c16b1
             try clear c17
             try clear c17b0
             try clear c17b1
             try clear p18
             try clear q18
             try clear hx18
             try clear qi18
             try clear hf18
             try clear c23
             try clear c23b0
             try clear hx18_0
             try clear hx464_0
             try clear p1
             try clear p18
             try clear p2
             try clear p4
             try clear p464
             try clear q1
             try clear q18
             try clear q4
             try clear q464
             obtain ⟨x6_3, x9_3, rfl, HA, HK3, HO_3, HO_5, HO_6, HO_8, HB⟩ := hrel
             have hl6_3 := (Kd.R_reads' HO_6.out).1
             rw [hl6_3] at HO_6
             (try simp only [hl6_3])
             (try simp only [hl6_3] at HO_3)
             (try simp only [hl6_3] at HO_5)
             (try simp only [hl6_3] at HO_8)
             cases gk with
             | zero => exact absurd HA.out (by simp [lockgatelaw06_FlowInside.l1])
             | succ k3 =>
              have H := HA.out
              clear HA
              simp only [lockgatelaw06_FlowInside.l1] at H
              by_cases c26 : x9_3 < (t471.length : Int)
              ·rw [if_pos c26] at H
               have c26b0 : decide (x9_3 < (t471.length : Int)) = true := decide_eq_true c26
               clear c26
               by_cases c27 : 0 ≤ x9_3
               ·rw [if_pos c27] at H
                have c27b0 : decide (0 ≤ x9_3) = true := decide_eq_true c27
                clear c27
                by_cases c28 : (rd t471 x9_3) < 0
                ·rw [if_pos c28] at H
                 have c28b0 : decide ((rd t471 x9_3) < 0) = true := decide_eq_true c28
                 clear c28
                 exact absurd ((Option.some.inj H).trans HRT.out) (by decide)
                ·rw [if_neg c28] at H
                 have c28b0 : decide ((rd t471 x9_3) < 0) = false := decide_eq_false c28
                 clear c28
                 by_cases c29 : (rd t471 x9_3) ≥ (l0.length : Int)
                 ·rw [if_pos c29] at H
                  have c29b0 : decide ((l0.length : Int) ≤ (rd t471 x9_3)) = true := decide_eq_true c29
                  clear c29
                  exact absurd ((Option.some.inj H).trans HRT.out) (by decide)
                 ·rw [if_neg c29] at H
                  have c29b0 : decide ((l0.length : Int) ≤ (rd t471 x9_3)) = false := decide_eq_false c29
                  clear c29
                  by_cases c30 : 0 ≤ x7_2
                  ·rw [if_pos c30] at H
                   have c30b0 : decide (0 ≤ x7_2) = true := decide_eq_true c30
                   clear c30
                   by_cases c31 : x7_2 < (t461.length : Int)
                   ·rw [if_pos c31] at H
                    have c31b0 : decide (x7_2 < (t461.length : Int)) = true := decide_eq_true c31
                    clear c31
                    obtain ⟨bq32, hbq32⟩ : ∃ b_ : Bool, b_ = (rdOf false t461 x7_2) := ⟨_, rfl⟩
                    replace H : (if bq32 = true then (if 0 ≤ (rd t471 x9_3) then (if (rd t471 x9_3) < (t461.length : Int) then (if (rdOf false t461 (rd t471 x9_3) = true) then (if (rd t471 x9_3) < (x6_3.length : Int) then (if rdOf false x6_3 (rd t471 x9_3) = true then (lockgatelaw06_FlowInside.l1 k3 l0 t456 t461 (x6_3.set ((rd t471 x9_3) : Int).toNat true) x7_2 t471 (wrap64 (x9_3 + 1))) else (lockgatelaw06_FlowInside.l1 k3 l0 t456 t461 (x6_3.set ((rd t471 x9_3) : Int).toNat (bq32)) x7_2 t471 (wrap64 (x9_3 + 1)))) else (none)) else (some false)) else (none)) else (none)) else (if 0 ≤ (rd t471 x9_3) then (if (rd t471 x9_3) < (x6_3.length : Int) then (if rdOf false x6_3 (rd t471 x9_3) = true then (lockgatelaw06_FlowInside.l1 k3 l0 t456 t461 (x6_3.set ((rd t471 x9_3) : Int).toNat true) x7_2 t471 (wrap64 (x9_3 + 1))) else (lockgatelaw06_FlowInside.l1 k3 l0 t456 t461 (x6_3.set ((rd t471 x9_3) : Int).toNat (bq32)) x7_2 t471 (wrap64 (x9_3 + 1)))) else (none)) else (none))) = some r := by rw [← hbq32] at H; exact H
                    have Nbq32 := Aside0.mk hbq32
                    clear hbq32
                    by_cases c33 : bq32 = true
                    ·subst c33
                     have H1 : (if 0 ≤ (rd t471 x9_3) then (if (rd t471 x9_3) < (t461.length : Int) then (if (rdOf false t461 (rd t471 x9_3) = true) then (if (rd t471 x9_3) < (x6_3.length : Int) then (if rdOf false x6_3 (rd t471 x9_3) = true then (lockgatelaw06_FlowInside.l1 k3 l0 t456 t461 (x6_3.set ((rd t471 x9_3) : Int).toNat true) x7_2 t471 (wrap64 (x9_3 + 1))) else (lockgatelaw06_FlowInside.l1 k3 l0 t456 t461 (x6_3.set ((rd t471 x9_3) : Int).toNat (true)) x7_2 t471 (wrap64 (x9_3 + 1)))) else (none)) else (some false)) else (none)) else (none)) = some r := by rw [if_pos rfl] at H; exact H
                     clear H
                     have H := H1
                     clear H1
                     by_cases c34 : 0 ≤ (rd t471 x9_3)
                     ·rw [if_pos c34] at H
                      have c34b0 : decide (0 ≤ (rd t471 x9_3)) = true := decide_eq_true c34
                      clear c34
                      by_cases c35 : (rd t471 x9_3) < (t461.length : Int)
                      ·rw [if_pos c35] at H
                       have c35b0 : decide ((rd t471 x9_3) < (t461.length : Int)) = true := decide_eq_true c35
                       clear c35
                       obtain ⟨bq36, hbq36⟩ : ∃ b_ : Bool, b_ = (rdOf false t461 (rd t471 x9_3)) := ⟨_, rfl⟩
                       replace H : (if (bq36 = true) then (if (rd t471 x9_3) < (x6_3.length : Int) then (if rdOf false x6_3 (rd t471 x9_3) = true then (lockgatelaw06_FlowInside.l1 k3 l0 t456 t461 (x6_3.set ((rd t471 x9_3) : Int).toNat true) x7_2 t471 (wrap64 (x9_3 + 1))) else (lockgatelaw06_FlowInside.l1 k3 l0 t456 t461 (x6_3.set ((rd t471 x9_3) : Int).toNat (true)) x7_2 t471 (wrap64 (x9_3 + 1)))) else (none)) else (some false)) = some r := by rw [← hbq36] at H; exact H
                       have Nbq36 := Aside0.mk hbq36
                       clear hbq36
                       by_cases c37 : (bq36 = true)
                       ·subst c37
                        have H1 : (if (rd t471 x9_3) < (x6_3.length : Int) then (if rdOf false x6_3 (rd t471 x9_3) = true then (lockgatelaw06_FlowInside.l1 k3 l0 t456 t461 (x6_3.set ((rd t471 x9_3) : Int).toNat true) x7_2 t471 (wrap64 (x9_3 + 1))) else (lockgatelaw06_FlowInside.l1 k3 l0 t456 t461 (x6_3.set ((rd t471 x9_3) : Int).toNat (true)) x7_2 t471 (wrap64 (x9_3 + 1)))) else (none)) = some r := by rw [if_pos rfl] at H; exact H
                        clear H
                        have H := H1
                        clear H1
                        by_cases c38 : (rd t471 x9_3) < (x6_3.length : Int)
                        ·rw [if_pos c38] at H
                         have c38b0 : decide ((rd t471 x9_3) < (x6_3.length : Int)) = true := decide_eq_true c38
                         clear c38
                         obtain ⟨bq39, hbq39⟩ : ∃ b_ : Bool, b_ = (rdOf false x6_3 (rd t471 x9_3)) := ⟨_, rfl⟩
                         replace H : (if bq39 = true then (lockgatelaw06_FlowInside.l1 k3 l0 t456 t461 (x6_3.set ((rd t471 x9_3) : Int).toNat true) x7_2 t471 (wrap64 (x9_3 + 1))) else (lockgatelaw06_FlowInside.l1 k3 l0 t456 t461 (x6_3.set ((rd t471 x9_3) : Int).toNat (true)) x7_2 t471 (wrap64 (x9_3 + 1)))) = some r := by rw [← hbq39] at H; exact H
                         have Nbq39 := Aside0.mk hbq39
                         clear hbq39
                         by_cases c40 : bq39 = true
                         ·subst c40
                          have H1 : (lockgatelaw06_FlowInside.l1 k3 l0 t456 t461 (x6_3.set ((rd t471 x9_3) : Int).toNat true) x7_2 t471 (wrap64 (x9_3 + 1))) = some r := by rw [if_pos rfl] at H; exact H
                          clear H
                          have H := H1
                          clear H1
                          obtain ⟨y482, hy482⟩ : ∃ y_ : List Bool, y_ = (x6_3.set ((rd t471 x9_3) : Int).toNat true) := ⟨_, rfl⟩
                          replace H : (lockgatelaw06_FlowInside.l1 k3 l0 t456 t461 y482 x7_2 t471 (wrap64 (x9_3 + 1))) = some r := by first | (rw [hy482]; with_reducible exact H) | (have H2_ := (Option.bind_some _ _).symm.trans H; rw [hy482]; with_reducible exact H2_) | (have H2_ := (Option.bind_some _ _).symm.trans H; with_reducible exact H2_) | with_reducible exact H | (rw [hy482]; exact H) | exact H
                          have Ny482 := Aside0.mk hy482
                          clear hy482
                          have H' := Aside0.mk H
                          clear H
                          obtain ⟨Ao42, co42, eo42⟩ := Kd.R_slice HO_8.out
                          subst eo42
                          have p474 : 0 ≤ (x9_3 : Int) := of_decide_eq_true (by first | (with_reducible assumption) | assumption)
                          have q474 : x9_3 < (t471.length : Int) := of_decide_eq_true (by first | (with_reducible assumption) | assumption)
                          obtain ⟨ad474, e474, hx474_0⟩ := Kd.at_int (Kd.R_reads' HO_8.out).2.2 x9_3 p474 q474
                          cases e474
                          replace p474 := eq_true p474
                          replace q474 := eq_true q474
                          have p475 : 0 ≤ (x9_3 : Int) := of_decide_eq_true (by first | (with_reducible assumption) | assumption)
                          have q475 : x9_3 < (t471.length : Int) := of_decide_eq_true (by first | (with_reducible assumption) | assumption)
                          obtain ⟨ad475, e475, hx475_0⟩ := Kd.at_int (Kd.R_reads' HO_8.out).2.2 x9_3 p475 q475
                          obtain rfl : ad474 = ad475 := (by injection e475)
                          replace p475 := eq_true p475
                          replace q475 := eq_true q475
                          obtain ⟨Ao43, co43, eo43⟩ := Kd.R_slice HO_5.out
                          subst eo43
                          have p476 : 0 ≤ (x7_2 : Int) := of_decide_eq_true (by first | (with_reducible assumption) | assumption)
                          have q476 : x7_2 < (t461.length : Int) := of_decide_eq_true (by first | (with_reducible assumption) | assumption)
                          obtain ⟨ad476, e476, hx476_0⟩ := Kd.at_bool (Kd.R_reads' HO_5.out).2.2 x7_2 p476 q476
                          (try rw [← Nbq32.out] at hx476_0)
                          (try rw [← Nbq36.out] at hx476_0)
                          (try rw [← Nbq39.out] at hx476_0)
                          cases e476
                          replace p476 := eq_true p476
                          replace q476 := eq_true q476
                          have p477 : 0 ≤ (x9_3 : Int) := of_decide_eq_true (by first | (with_reducible assumption) | assumption)
                          have q477 : x9_3 < (t471.length : Int) := of_decide_eq_true (by first | (with_reducible assumption) | assumption)
                          obtain ⟨ad477, e477, hx477_0⟩ := Kd.at_int (Kd.R_reads' HO_8.out).2.2 x9_3 p477 q477
                          obtain rfl : ad474 = ad477 := (by injection e477)
                          replace p477 := eq_true p477
                          replace q477 := eq_true q477
                          have p478 : 0 ≤ ((rd t471 x9_3) : Int) := of_decide_eq_true (by first | (with_reducible assumption) | assumption)
                          have q478 : (rd t471 x9_3) < (t461.length : Int) := of_decide_eq_true (by first | (with_reducible assumption) | assumption)
                          obtain ⟨ad478, e478, hx478_0⟩ := Kd.at_bool (Kd.R_reads' HO_5.out).2.2 (rd t471 x9_3) p478 q478
                          (try rw [← Nbq32.out] at hx478_0)
                          (try rw [← Nbq36.out] at hx478_0)
                          (try rw [← Nbq39.out] at hx478_0)
                          obtain rfl : ad476 = ad478 := (by injection e478)
                          replace p478 := eq_true p478
                          replace q478 := eq_true q478
                          try go_wp2
                          replace HO_3 := Aside0.mk (Kd.R_drew HO_3.out)
                          replace HO_5 := Aside0.mk (Kd.R_drew HO_5.out)
                          replace HO_6 := Aside0.mk (Kd.R_drew HO_6.out)
                          replace HO_8 := Aside0.mk (Kd.R_drew HO_8.out)
                          replace HB := Aside0.mk (below_drew1 HB.out)
                          have p479 : 0 ≤ (x9_3 : Int) := of_decide_eq_true (by first | (with_reducible assumption) | assumption)
                          have q479 : x9_3 < (t471.length : Int) := of_decide_eq_true (by first | (with_reducible assumption) | assumption)
                          obtain ⟨ad479, e479, hx479_0⟩ := Kd.at_int (Kd.R_reads' HO_8.out).2.2 x9_3 p479 q479
                          obtain rfl : ad474 = ad479 := (by injection e479)
                          replace p479 := eq_true p479
                          replace q479 := eq_true q479
                          have p480 : 0 ≤ (x9_3 : Int) := of_decide_eq_true (by first | (with_reducible assumption) | assumption)
                          have q480 : x9_3 < (t471.length : Int) := of_decide_eq_true (by first | (with_reducible assumption) | assumption)
                          obtain ⟨ad480, e480, hx480_0⟩ := Kd.at_int (Kd.R_reads' HO_8.out).2.2 x9_3 p480 q480
                          obtain rfl : ad474 = ad480 := (by injection e480)
                          replace p480 := eq_true p480
                          replace q480 := eq_true q480
                          have p481 : 0 ≤ ((rd t471 x9_3) : Int) := of_decide_eq_true (by first | (with_reducible assumption) | assumption)
                          have q481 : (rd t471 x9_3) < (x6_3.length : Int) := of_decide_eq_true (by first | (with_reducible assumption) | assumption)
                          obtain ⟨ad481, e481, hx481_0⟩ := Kd.at_bool (Kd.R_reads' HO_6.out).2.2 (rd t471 x9_3) p481 q481
                          (try rw [← Nbq32.out] at hx481_0)
                          (try rw [← Nbq36.out] at hx481_0)
                          (try rw [← Nbq39.out] at hx481_0)
                          obtain rfl : (⟨go18, 0, none⟩ : Addr) = ad481 := (by injection e481)
                          (first | simp only [add_plain] at hx481_0 | simp only [add_at] at hx481_0 | simp only [Addr.add, Nat.zero_add] at hx481_0 | skip)
                          replace p481 := eq_true p481
                          replace q481 := eq_true q481
                          have p41 : 0 ≤ ((rd t471 x9_3) : Int) := of_decide_eq_true (by first | (with_reducible assumption) | assumption)
                          have q41 : ((rd t471 x9_3) : Int) < ((x6_3.length : Int) : Int) := of_decide_eq_true (by first | (with_reducible assumption) | assumption)
                          obtain ⟨hx41_0, hf41_0⟩ := Kd.R_celln false HO_6.out ((rd t471 x9_3) : Int) p41 q41
                          replace p41 := eq_true p41
                          replace q41 := eq_true q41
                          have HP45 := Kd.R_putn HO_6.out ((rd t471 x9_3) : Int) true
                          rw [← Ny482.out] at HP45
                          have HQ45 := Aside0.mk HP45
                          clear HP45
                          refine start_ (n := 20) (S := fun w' => w'.cell? (ad474.add (x9_3).toNat) = some (.int .i64 (rd t471 x9_3)) ∧ w'.cell? (ad474.add (x9_3).toNat) = some (.int .i64 (rd t471 x9_3)) ∧ w'.cell? ⟨go18, ((rd t471 x9_3)).toNat, none⟩ = some (.bool true)) (ds := [19]) #[n_,n_,n_,n_,n_,n_,n_,n_,n_,n_,n_,n_,n_,n_,n_,n_,n_,n_,n_,n_] (by kernel_rfl) rfl rfl ⟨hx479_0, hx480_0, hx481_0⟩ (fun hHeld => ?_); refine with_tabW lockgatelaw06_FlowInside.tab20 lockgatelaw06_FlowInside.bits20 (fun HT_ HW_ => ?_)
                          generalize wr.drew = w44 at HO_3 HO_5 HO_6 HO_8 HB HQ45 hf41_0 hx41_0 hx479_0 hx480_0 hx481_0 hHeld ⊢
                          refine pq_ 0 87 #[y_,n_,n_,n_,n_,n_,n_,n_,n_,n_,n_,n_,n_,n_,n_,n_,n_,n_,n_,n_] ?_
                          refine pq_ 1 88 #[y_,y_,n_,n_,n_,n_,n_,n_,n_,n_,n_,n_,n_,n_,n_,n_,n_,n_,n_,n_] ?_
                          refine pq_ 2 89 #[y_,y_,y_,n_,n_,n_,n_,n_,n_,n_,n_,n_,n_,n_,n_,n_,n_,n_,n_,n_] ?_
                          refine pq_ 3 90 #[y_,y_,y_,y_,n_,n_,n_,n_,n_,n_,n_,n_,n_,n_,n_,n_,n_,n_,n_,n_] ?_
                          refine pq_ 5 92 #[y_,y_,y_,y_,n_,y_,n_,n_,n_,n_,n_,n_,n_,n_,n_,n_,n_,n_,n_,n_] ?_
                          refine pq_ 6 93 #[y_,y_,y_,y_,n_,y_,y_,n_,n_,n_,n_,n_,n_,n_,n_,n_,n_,n_,n_,n_] ?_
                          refine pq_ 7 94 #[y_,y_,y_,y_,n_,y_,y_,y_,n_,n_,n_,n_,n_,n_,n_,n_,n_,n_,n_,n_] ?_
                          refine pq_ 8 95 #[y_,y_,y_,y_,n_,y_,y_,y_,y_,n_,n_,n_,n_,n_,n_,n_,n_,n_,n_,n_] ?_
                          refine tq4_ 4 91 #[y_,y_,y_,y_,y_,y_,y_,y_,y_,n_,n_,n_,n_,n_,n_,n_,n_,n_,n_,n_] hHeld ?_
                          refine tq4_ 9 96 #[y_,y_,y_,y_,y_,y_,y_,y_,y_,y_,n_,n_,n_,n_,n_,n_,n_,n_,n_,n_] hHeld ?_
                          refine pq_ 10 97 #[y_,y_,y_,y_,y_,y_,y_,y_,y_,y_,y_,n_,n_,n_,n_,n_,n_,n_,n_,n_] ?_
                          refine tq4_ 11 98 #[y_,y_,y_,y_,y_,y_,y_,y_,y_,y_,y_,y_,n_,n_,n_,n_,n_,n_,n_,n_] hHeld ?_
                          refine pq_ 12 99 #[y_,y_,y_,y_,y_,y_,y_,y_,y_,y_,y_,y_,y_,n_,n_,n_,n_,n_,n_,n_] ?_
                          refine pu_ 13 100 #[y_,y_,y_,y_,y_,y_,y_,y_,y_,y_,y_,y_,y_,y_,n_,n_,n_,n_,n_,n_] ?_
                          refine pu_ 14 101 #[y_,y_,y_,y_,y_,y_,y_,y_,y_,y_,y_,y_,y_,y_,y_,n_,n_,n_,n_,n_] ?_
                          refine pu_ 15 102 #[y_,y_,y_,y_,y_,y_,y_,y_,y_,y_,y_,y_,y_,y_,y_,y_,n_,n_,n_,n_] ?_
                          refine pu_ 16 103 #[y_,y_,y_,y_,y_,y_,y_,y_,y_,y_,y_,y_,y_,y_,y_,y_,y_,n_,n_,n_] ?_
                          refine pq_ 17 104 #[y_,y_,y_,y_,y_,y_,y_,y_,y_,y_,y_,y_,y_,y_,y_,y_,y_,y_,n_,n_] ?_
                          refine pq_ 18 105 #[y_,y_,y_,y_,y_,y_,y_,y_,y_,y_,y_,y_,y_,y_,y_,y_,y_,y_,y_,n_] ?_
                          refine last_ (i := 19) (N := none) #[y_,y_,y_,y_,y_,y_,y_,y_,y_,y_,y_,y_,y_,y_,y_,y_,y_,y_,y_,y_] rfl rfl (one_of HT_.out (by kernel_rfl)) (by decide) (fun K hK => ?_)
                          refine skip_ (w1 := ?_) (by rfl) rfl ?_ ?_
                          rotate_left
                          ·go_simp
                           rfl
                          refine hK.out _ _ ?_
                          clear hK K
                          refine done_ (done_of HT_.out (by kernel_rfl)) ?_
                          try go_wp2
                          (try simp only [← hl6_3])
                          go_roundg k3
                          case measure => have := HJ6.out; have := HK2.out; have := HK3.out; omega
                          case rel => exact ⟨(y482), (wrap64 (x9_3 + 1)), (by first | rfl | (simp; done) | (simp [*]; done)), H', ⟨by have := HJ6.out; have := HK2.out; have := HK3.out; omega⟩, ⟨by (try simp only [hl6_2]); (try simp only [hl6_3]); (with_reducible repeat (first | apply Kd.R_alloc | apply Kd.R_drewN | apply Kd.R_drew)); exact Kd.R_mono (Kd.R_far (p := ⟨go18, ((rd t471 x9_3) : Int).toNat, none⟩) (Kd.R_types HO_3.out (Kd.R_typed HO_6.out _ rfl).choose_spec (by decide)) (fun _ hk => hk.2) (.bool true)) (fun _ hk => hk.1)⟩, ⟨by (try simp only [hl6_2]); (try simp only [hl6_3]); (with_reducible repeat (first | apply Kd.R_alloc | apply Kd.R_drewN | apply Kd.R_drew)); exact Kd.R_mono (Kd.R_far (p := ⟨go18, ((rd t471 x9_3) : Int).toNat, none⟩) (Kd.R_mono HO_5.out (fun k_ hk => (⟨hk, fun e_ => hk (by rw [e_]; rfl)⟩ : _ ∧ k_ ≠ go18))) (fun _ hk => hk.2) (.bool true)) (fun _ hk => hk.1)⟩, ⟨by (try simp only [hl6_2]); (try simp only [hl6_3]); (with_reducible repeat (first | apply Kd.R_alloc | apply Kd.R_drewN | apply Kd.R_drew)); exact HQ45.out⟩, ⟨by (try simp only [hl6_2]); (try simp only [hl6_3]); (with_reducible repeat (first | apply Kd.R_alloc | apply Kd.R_drewN | apply Kd.R_drew)); exact Kd.R_mono (Kd.R_far (p := ⟨go18, ((rd t471 x9_3) : Int).toNat, none⟩) (Kd.R_types HO_8.out (Kd.R_typed HO_6.out _ rfl).choose_spec (by decide)) (fun _ hk => hk.2) (.bool true)) (fun _ hk => hk.1)⟩, ⟨by repeat (first | (with_reducible first | exact HB.out | apply lA_ | apply lN_ | apply lD_ | refine below_set ?_ GB18.out) | exact HB.out)⟩⟩
                         ·replace c40 := Bool.eq_false_iff.mpr c40
                          subst c40
                          have H1 : (lockgatelaw06_FlowInside.l1 k3 l0 t456 t461 (x6_3.set ((rd t471 x9_3) : Int).toNat (true)) x7_2 t471 (wrap64 (x9_3 + 1))) = some r := by rw [if_neg (show ¬ (false = true) by decide)] at H; exact H
                          clear H
                          have H := H1
                          clear H1
                          obtain ⟨y484, hy484⟩ : ∃ y_ : List Bool, y_ = (x6_3.set ((rd t471 x9_3) : Int).toNat (true)) := ⟨_, rfl⟩
                          replace H : (lockgatelaw06_FlowInside.l1 k3 l0 t456 t461 y484 x7_2 t471 (wrap64 (x9_3 + 1))) = some r := by first | (rw [hy484]; with_reducible exact H) | (have H2_ := (Option.bind_some _ _).symm.trans H; rw [hy484]; with_reducible exact H2_) | (have H2_ := (Option.bind_some _ _).symm.trans H; with_reducible exact H2_) | with_reducible exact H | (rw [hy484]; exact H) | exact H
                          have Ny484 := Aside0.mk hy484
                          clear hy484
                          have H' := Aside0.mk H
                          clear H
                          obtain ⟨Ao47, co47, eo47⟩ := Kd.R_slice HO_8.out
                          subst eo47
                          have p474 : 0 ≤ (x9_3 : Int) := of_decide_eq_true (by first | (with_reducible assumption) | assumption)
                          have q474 : x9_3 < (t471.length : Int) := of_decide_eq_true (by first | (with_reducible assumption) | assumption)
                          obtain ⟨ad474, e474, hx474_0⟩ := Kd.at_int (Kd.R_reads' HO_8.out).2.2 x9_3 p474 q474
                          cases e474
                          replace p474 := eq_true p474
                          replace q474 := eq_true q474
                          have p475 : 0 ≤ (x9_3 : Int) := of_decide_eq_true (by first | (with_reducible assumption) | assumption)
                          have q475 : x9_3 < (t471.length : Int) := of_decide_eq_true (by first | (with_reducible assumption) | assumption)
                          obtain ⟨ad475, e475, hx475_0⟩ := Kd.at_int (Kd.R_reads' HO_8.out).2.2 x9_3 p475 q475
                          obtain rfl : ad474 = ad475 := (by injection e475)
                          replace p475 := eq_true p475
                          replace q475 := eq_true q475
                          obtain ⟨Ao48, co48, eo48⟩ := Kd.R_slice HO_5.out
                          subst eo48
                          have p476 : 0 ≤ (x7_2 : Int) := of_decide_eq_true (by first | (with_reducible assumption) | assumption)
                          have q476 : x7_2 < (t461.length : Int) := of_decide_eq_true (by first | (with_reducible assumption) | assumption)
                          obtain ⟨ad476, e476, hx476_0⟩ := Kd.at_bool (Kd.R_reads' HO_5.out).2.2 x7_2 p476 q476
                          (try rw [← Nbq32.out] at hx476_0)
                          (try rw [← Nbq36.out] at hx476_0)
                          (try rw [← Nbq39.out] at hx476_0)
                          cases e476
                          replace p476 := eq_true p476
                          replace q476 := eq_true q476
                          have p477 : 0 ≤ (x9_3 : Int) := of_decide_eq_true (by first | (with_reducible assumption) | assumption)
                          have q477 : x9_3 < (t471.length : Int) := of_decide_eq_true (by first | (with_reducible assumption) | assumption)
                          obtain ⟨ad477, e477, hx477_0⟩ := Kd.at_int (Kd.R_reads' HO_8.out).2.2 x9_3 p477 q477
                          obtain rfl : ad474 = ad477 := (by injection e477)
                          replace p477 := eq_true p477
                          replace q477 := eq_true q477
                          have p478 : 0 ≤ ((rd t471 x9_3) : Int) := of_decide_eq_true (by first | (with_reducible assumption) | assumption)
                          have q478 : (rd t471 x9_3) < (t461.length : Int) := of_decide_eq_true (by first | (with_reducible assumption) | assumption)
                          obtain ⟨ad478, e478, hx478_0⟩ := Kd.at_bool (Kd.R_reads' HO_5.out).2.2 (rd t471 x9_3) p478 q478
                          (try rw [← Nbq32.out] at hx478_0)
                          (try rw [← Nbq36.out] at hx478_0)
                          (try rw [← Nbq39.out] at hx478_0)
                          obtain rfl : ad476 = ad478 := (by injection e478)
                          replace p478 := eq_true p478
                          replace q478 := eq_true q478
                          try go_wp2
                          replace HO_3 := Aside0.mk (Kd.R_drew HO_3.out)
                          replace HO_5 := Aside0.mk (Kd.R_drew HO_5.out)
                          replace HO_6 := Aside0.mk (Kd.R_drew HO_6.out)
                          replace HO_8 := Aside0.mk (Kd.R_drew HO_8.out)
                          replace HB := Aside0.mk (below_drew1 HB.out)
                          have p479 : 0 ≤ (x9_3 : Int) := of_decide_eq_true (by first | (with_reducible assumption) | assumption)
                          have q479 : x9_3 < (t471.length : Int) := of_decide_eq_true (by first | (with_reducible assumption) | assumption)
                          obtain ⟨ad479, e479, hx479_0⟩ := Kd.at_int (Kd.R_reads' HO_8.out).2.2 x9_3 p479 q479
                          obtain rfl : ad474 = ad479 := (by injection e479)
                          replace p479 := eq_true p479
                          replace q479 := eq_true q479
                          have p480 : 0 ≤ (x9_3 : Int) := of_decide_eq_true (by first | (with_reducible assumption) | assumption)
                          have q480 : x9_3 < (t471.length : Int) := of_decide_eq_true (by first | (with_reducible assumption) | assumption)
                          obtain ⟨ad480, e480, hx480_0⟩ := Kd.at_int (Kd.R_reads' HO_8.out).2.2 x9_3 p480 q480
                          obtain rfl : ad474 = ad480 := (by injection e480)
                          replace p480 := eq_true p480
                          replace q480 := eq_true q480
                          have p481 : 0 ≤ ((rd t471 x9_3) : Int) := of_decide_eq_true (by first | (with_reducible assumption) | assumption)
                          have q481 : (rd t471 x9_3) < (x6_3.length : Int) := of_decide_eq_true (by first | (with_reducible assumption) | assumption)
                          obtain ⟨ad481, e481, hx481_0⟩ := Kd.at_bool (Kd.R_reads' HO_6.out).2.2 (rd t471 x9_3) p481 q481
                          (try rw [← Nbq32.out] at hx481_0)
                          (try rw [← Nbq36.out] at hx481_0)
                          (try rw [← Nbq39.out] at hx481_0)
                          obtain rfl : (⟨go18, 0, none⟩ : Addr) = ad481 := (by injection e481)
                          (first | simp only [add_plain] at hx481_0 | simp only [add_at] at hx481_0 | simp only [Addr.add, Nat.zero_add] at hx481_0 | skip)
                          replace p481 := eq_true p481
                          replace q481 := eq_true q481
                          have p483 : 0 ≤ (x7_2 : Int) := of_decide_eq_true (by first | (with_reducible assumption) | assumption)
                          have q483 : x7_2 < (t461.length : Int) := of_decide_eq_true (by first | (with_reducible assumption) | assumption)
                          obtain ⟨ad483, e483, hx483_0⟩ := Kd.at_bool (Kd.R_reads' HO_5.out).2.2 x7_2 p483 q483
                          (try rw [← Nbq32.out] at hx483_0)
                          (try rw [← Nbq36.out] at hx483_0)
                          (try rw [← Nbq39.out] at hx483_0)
                          obtain rfl : ad476 = ad483 := (by injection e483)
                          replace p483 := eq_true p483
                          replace q483 := eq_true q483
                          have p46 : 0 ≤ ((rd t471 x9_3) : Int) := of_decide_eq_true (by first | (with_reducible assumption) | assumption)
                          have q46 : ((rd t471 x9_3) : Int) < ((x6_3.length : Int) : Int) := of_decide_eq_true (by first | (with_reducible assumption) | assumption)
                          obtain ⟨hx46_0, hf46_0⟩ := Kd.R_celln false HO_6.out ((rd t471 x9_3) : Int) p46 q46
                          replace p46 := eq_true p46
                          replace q46 := eq_true q46
                          have HP50 := Kd.R_putn HO_6.out ((rd t471 x9_3) : Int) true
                          rw [← Ny484.out] at HP50
                          have HQ50 := Aside0.mk HP50
                          clear HP50
                          refine start_ (n := 20) (S := fun w' => w'.cell? (ad474.add (x9_3).toNat) = some (.int .i64 (rd t471 x9_3)) ∧ w'.cell? (ad474.add (x9_3).toNat) = some (.int .i64 (rd t471 x9_3)) ∧ w'.cell? ⟨go18, ((rd t471 x9_3)).toNat, none⟩ = some (.bool false) ∧ w'.cell? (ad476.add (x7_2).toNat) = some (.bool (true))) (ds := [19]) #[n_,n_,n_,n_,n_,n_,n_,n_,n_,n_,n_,n_,n_,n_,n_,n_,n_,n_,n_,n_] (by kernel_rfl) rfl rfl ⟨hx479_0, hx480_0, hx481_0, hx483_0⟩ (fun hHeld => ?_); refine with_tabW lockgatelaw06_FlowInside.tab20 lockgatelaw06_FlowInside.bits20 (fun HT_ HW_ => ?_)
                          generalize wr.drew = w49 at HO_3 HO_5 HO_6 HO_8 HB HQ50 hf46_0 hx46_0 hx479_0 hx480_0 hx481_0 hx483_0 hHeld ⊢
                          refine pq_ 0 87 #[y_,n_,n_,n_,n_,n_,n_,n_,n_,n_,n_,n_,n_,n_,n_,n_,n_,n_,n_,n_] ?_
                          refine pq_ 1 88 #[y_,y_,n_,n_,n_,n_,n_,n_,n_,n_,n_,n_,n_,n_,n_,n_,n_,n_,n_,n_] ?_
                          refine pq_ 2 89 #[y_,y_,y_,n_,n_,n_,n_,n_,n_,n_,n_,n_,n_,n_,n_,n_,n_,n_,n_,n_] ?_
                          refine pq_ 3 90 #[y_,y_,y_,y_,n_,n_,n_,n_,n_,n_,n_,n_,n_,n_,n_,n_,n_,n_,n_,n_] ?_
                          refine pq_ 5 92 #[y_,y_,y_,y_,n_,y_,n_,n_,n_,n_,n_,n_,n_,n_,n_,n_,n_,n_,n_,n_] ?_
                          refine pq_ 6 93 #[y_,y_,y_,y_,n_,y_,y_,n_,n_,n_,n_,n_,n_,n_,n_,n_,n_,n_,n_,n_] ?_
                          refine pq_ 7 94 #[y_,y_,y_,y_,n_,y_,y_,y_,n_,n_,n_,n_,n_,n_,n_,n_,n_,n_,n_,n_] ?_
                          refine pq_ 8 95 #[y_,y_,y_,y_,n_,y_,y_,y_,y_,n_,n_,n_,n_,n_,n_,n_,n_,n_,n_,n_] ?_
                          refine tq5_ 4 91 #[y_,y_,y_,y_,y_,y_,y_,y_,y_,n_,n_,n_,n_,n_,n_,n_,n_,n_,n_,n_] hHeld ?_
                          refine tq5_ 9 96 #[y_,y_,y_,y_,y_,y_,y_,y_,y_,y_,n_,n_,n_,n_,n_,n_,n_,n_,n_,n_] hHeld ?_
                          refine pq_ 10 97 #[y_,y_,y_,y_,y_,y_,y_,y_,y_,y_,y_,n_,n_,n_,n_,n_,n_,n_,n_,n_] ?_
                          refine tq5_ 11 98 #[y_,y_,y_,y_,y_,y_,y_,y_,y_,y_,y_,y_,n_,n_,n_,n_,n_,n_,n_,n_] hHeld ?_
                          refine pq_ 12 99 #[y_,y_,y_,y_,y_,y_,y_,y_,y_,y_,y_,y_,y_,n_,n_,n_,n_,n_,n_,n_] ?_
                          refine pq_ 13 100 #[y_,y_,y_,y_,y_,y_,y_,y_,y_,y_,y_,y_,y_,y_,n_,n_,n_,n_,n_,n_] ?_
                          refine pq_ 14 101 #[y_,y_,y_,y_,y_,y_,y_,y_,y_,y_,y_,y_,y_,y_,y_,n_,n_,n_,n_,n_] ?_
                          refine pq_ 15 102 #[y_,y_,y_,y_,y_,y_,y_,y_,y_,y_,y_,y_,y_,y_,y_,y_,n_,n_,n_,n_] ?_
                          refine tq5_ 16 103 #[y_,y_,y_,y_,y_,y_,y_,y_,y_,y_,y_,y_,y_,y_,y_,y_,y_,n_,n_,n_] hHeld ?_
                          refine pq_ 17 104 #[y_,y_,y_,y_,y_,y_,y_,y_,y_,y_,y_,y_,y_,y_,y_,y_,y_,y_,n_,n_] ?_
                          refine pq_ 18 105 #[y_,y_,y_,y_,y_,y_,y_,y_,y_,y_,y_,y_,y_,y_,y_,y_,y_,y_,y_,n_] ?_
                          refine last_ (i := 19) (N := none) #[y_,y_,y_,y_,y_,y_,y_,y_,y_,y_,y_,y_,y_,y_,y_,y_,y_,y_,y_,y_] rfl rfl (one_of HT_.out (by kernel_rfl)) (by decide) (fun K hK => ?_)
                          refine skip_ (w1 := ?_) (by rfl) rfl ?_ ?_
                          rotate_left
                          ·go_simp
                           rfl
                          refine hK.out _ _ ?_
                          clear hK K
                          refine done_ (done_of HT_.out (by kernel_rfl)) ?_
                          try go_wp2
                          (try simp only [← hl6_3])
                          go_roundg k3
                          case measure => have := HJ6.out; have := HK2.out; have := HK3.out; omega
                          case rel => exact ⟨(y484), (wrap64 (x9_3 + 1)), (by first | rfl | (simp; done) | (simp [*]; done)), H', ⟨by have := HJ6.out; have := HK2.out; have := HK3.out; omega⟩, ⟨by (try simp only [hl6_2]); (try simp only [hl6_3]); (with_reducible repeat (first | apply Kd.R_alloc | apply Kd.R_drewN | apply Kd.R_drew)); exact Kd.R_mono (Kd.R_far (p := ⟨go18, ((rd t471 x9_3) : Int).toNat, none⟩) (Kd.R_types HO_3.out (Kd.R_typed HO_6.out _ rfl).choose_spec (by decide)) (fun _ hk => hk.2) (.bool true)) (fun _ hk => hk.1)⟩, ⟨by (try simp only [hl6_2]); (try simp only [hl6_3]); (with_reducible repeat (first | apply Kd.R_alloc | apply Kd.R_drewN | apply Kd.R_drew)); exact Kd.R_mono (Kd.R_far (p := ⟨go18, ((rd t471 x9_3) : Int).toNat, none⟩) (Kd.R_mono HO_5.out (fun k_ hk => (⟨hk, fun e_ => hk (by rw [e_]; rfl)⟩ : _ ∧ k_ ≠ go18))) (fun _ hk => hk.2) (.bool true)) (fun _ hk => hk.1)⟩, ⟨by (try simp only [hl6_2]); (try simp only [hl6_3]); (with_reducible repeat (first | apply Kd.R_alloc | apply Kd.R_drewN | apply Kd.R_drew)); exact HQ50.out⟩, ⟨by (try simp only [hl6_2]); (try simp only [hl6_3]); (with_reducible repeat (first | apply Kd.R_alloc | apply Kd.R_drewN | apply Kd.R_drew)); exact Kd.R_mono (Kd.R_far (p := ⟨go18, ((rd t471 x9_3) : Int).toNat, none⟩) (Kd.R_types HO_8.out (Kd.R_typed HO_6.out _ rfl).choose_spec (by decide)) (fun _ hk => hk.2) (.bool true)) (fun _ hk => hk.1)⟩, ⟨by repeat (first | (with_reducible first | exact HB.out | apply lA_ | apply lN_ | apply lD_ | refine below_set ?_ GB18.out) | exact HB.out)⟩⟩
                        ·rw [if_neg c38] at H
                         exact absurd H (by simp)
                       ·replace c37 := Bool.eq_false_iff.mpr c37
                        subst c37
                        have H1 : (some false) = some r := by rw [if_neg (show ¬ (false = true) by decide)] at H; exact H
                        clear H
                        have H := H1
                        clear H1
                        exact absurd ((Option.some.inj H).trans HRT.out) (by decide)
                      ·rw [if_neg c35] at H
                       exact absurd H (by simp)
                     ·rw [if_neg c34] at H
                      exact absurd H (by simp)
                    ·replace c33 := Bool.eq_false_iff.mpr c33
                     subst c33
                     have H1 : (if 0 ≤ (rd t471 x9_3) then (if (rd t471 x9_3) < (x6_3.length : Int) then (if rdOf false x6_3 (rd t471 x9_3) = true then (lockgatelaw06_FlowInside.l1 k3 l0 t456 t461 (x6_3.set ((rd t471 x9_3) : Int).toNat true) x7_2 t471 (wrap64 (x9_3 + 1))) else (lockgatelaw06_FlowInside.l1 k3 l0 t456 t461 (x6_3.set ((rd t471 x9_3) : Int).toNat (false)) x7_2 t471 (wrap64 (x9_3 + 1)))) else (none)) else (none)) = some r := by rw [if_neg (show ¬ (false = true) by decide)] at H; exact H
                     clear H
                     have H := H1
                     clear H1
                     by_cases c51 : 0 ≤ (rd t471 x9_3)
                     ·rw [if_pos c51] at H
                      have c51b0 : decide (0 ≤ (rd t471 x9_3)) = true := decide_eq_true c51
                      clear c51
                      by_cases c52 : (rd t471 x9_3) < (x6_3.length : Int)
                      ·rw [if_pos c52] at H
                       have c52b0 : decide ((rd t471 x9_3) < (x6_3.length : Int)) = true := decide_eq_true c52
                       clear c52
                       obtain ⟨bq53, hbq53⟩ : ∃ b_ : Bool, b_ = (rdOf false x6_3 (rd t471 x9_3)) := ⟨_, rfl⟩
                       replace H : (if bq53 = true then (lockgatelaw06_FlowInside.l1 k3 l0 t456 t461 (x6_3.set ((rd t471 x9_3) : Int).toNat true) x7_2 t471 (wrap64 (x9_3 + 1))) else (lockgatelaw06_FlowInside.l1 k3 l0 t456 t461 (x6_3.set ((rd t471 x9_3) : Int).toNat (false)) x7_2 t471 (wrap64 (x9_3 + 1)))) = some r := by rw [← hbq53] at H; exact H
                       have Nbq53 := Aside0.mk hbq53
                       clear hbq53
                       by_cases c54 : bq53 = true
                       ·subst c54
                        have H1 : (lockgatelaw06_FlowInside.l1 k3 l0 t456 t461 (x6_3.set ((rd t471 x9_3) : Int).toNat true) x7_2 t471 (wrap64 (x9_3 + 1))) = some r := by rw [if_pos rfl] at H; exact H
                        clear H
                        have H := H1
                        clear H1
                        obtain ⟨y488, hy488⟩ : ∃ y_ : List Bool, y_ = (x6_3.set ((rd t471 x9_3) : Int).toNat true) := ⟨_, rfl⟩
                        replace H : (lockgatelaw06_FlowInside.l1 k3 l0 t456 t461 y488 x7_2 t471 (wrap64 (x9_3 + 1))) = some r := by first | (rw [hy488]; with_reducible exact H) | (have H2_ := (Option.bind_some _ _).symm.trans H; rw [hy488]; with_reducible exact H2_) | (have H2_ := (Option.bind_some _ _).symm.trans H; with_reducible exact H2_) | with_reducible exact H | (rw [hy488]; exact H) | exact H
                        have Ny488 := Aside0.mk hy488
                        clear hy488
                        have H' := Aside0.mk H
                        clear H
                        obtain ⟨Ao56, co56, eo56⟩ := Kd.R_slice HO_8.out
                        subst eo56
                        have p474 : 0 ≤ (x9_3 : Int) := of_decide_eq_true (by first | (with_reducible assumption) | assumption)
                        have q474 : x9_3 < (t471.length : Int) := of_decide_eq_true (by first | (with_reducible assumption) | assumption)
                        obtain ⟨ad474, e474, hx474_0⟩ := Kd.at_int (Kd.R_reads' HO_8.out).2.2 x9_3 p474 q474
                        cases e474
                        replace p474 := eq_true p474
                        replace q474 := eq_true q474
                        have p475 : 0 ≤ (x9_3 : Int) := of_decide_eq_true (by first | (with_reducible assumption) | assumption)
                        have q475 : x9_3 < (t471.length : Int) := of_decide_eq_true (by first | (with_reducible assumption) | assumption)
                        obtain ⟨ad475, e475, hx475_0⟩ := Kd.at_int (Kd.R_reads' HO_8.out).2.2 x9_3 p475 q475
                        obtain rfl : ad474 = ad475 := (by injection e475)
                        replace p475 := eq_true p475
                        replace q475 := eq_true q475
                        obtain ⟨Ao57, co57, eo57⟩ := Kd.R_slice HO_5.out
                        subst eo57
                        have p476 : 0 ≤ (x7_2 : Int) := of_decide_eq_true (by first | (with_reducible assumption) | assumption)
                        have q476 : x7_2 < (t461.length : Int) := of_decide_eq_true (by first | (with_reducible assumption) | assumption)
                        obtain ⟨ad476, e476, hx476_0⟩ := Kd.at_bool (Kd.R_reads' HO_5.out).2.2 x7_2 p476 q476
                        (try rw [← Nbq32.out] at hx476_0)
                        (try rw [← Nbq53.out] at hx476_0)
                        cases e476
                        replace p476 := eq_true p476
                        replace q476 := eq_true q476
                        try go_wp2
                        replace HO_3 := Aside0.mk (Kd.R_drew HO_3.out)
                        replace HO_5 := Aside0.mk (Kd.R_drew HO_5.out)
                        replace HO_6 := Aside0.mk (Kd.R_drew HO_6.out)
                        replace HO_8 := Aside0.mk (Kd.R_drew HO_8.out)
                        replace HB := Aside0.mk (below_drew1 HB.out)
                        have p485 : 0 ≤ (x9_3 : Int) := of_decide_eq_true (by first | (with_reducible assumption) | assumption)
                        have q485 : x9_3 < (t471.length : Int) := of_decide_eq_true (by first | (with_reducible assumption) | assumption)
                        obtain ⟨ad485, e485, hx485_0⟩ := Kd.at_int (Kd.R_reads' HO_8.out).2.2 x9_3 p485 q485
                        obtain rfl : ad474 = ad485 := (by injection e485)
                        replace p485 := eq_true p485
                        replace q485 := eq_true q485
                        have p486 : 0 ≤ (x9_3 : Int) := of_decide_eq_true (by first | (with_reducible assumption) | assumption)
                        have q486 : x9_3 < (t471.length : Int) := of_decide_eq_true (by first | (with_reducible assumption) | assumption)
                        obtain ⟨ad486, e486, hx486_0⟩ := Kd.at_int (Kd.R_reads' HO_8.out).2.2 x9_3 p486 q486
                        obtain rfl : ad474 = ad486 := (by injection e486)
                        replace p486 := eq_true p486
                        replace q486 := eq_true q486
                        have p487 : 0 ≤ ((rd t471 x9_3) : Int) := of_decide_eq_true (by first | (with_reducible assumption) | assumption)
                        have q487 : (rd t471 x9_3) < (x6_3.length : Int) := of_decide_eq_true (by first | (with_reducible assumption) | assumption)
                        obtain ⟨ad487, e487, hx487_0⟩ := Kd.at_bool (Kd.R_reads' HO_6.out).2.2 (rd t471 x9_3) p487 q487
                        (try rw [← Nbq32.out] at hx487_0)
                        (try rw [← Nbq53.out] at hx487_0)
                        obtain rfl : (⟨go18, 0, none⟩ : Addr) = ad487 := (by injection e487)
                        (first | simp only [add_plain] at hx487_0 | simp only [add_at] at hx487_0 | simp only [Addr.add, Nat.zero_add] at hx487_0 | skip)
                        replace p487 := eq_true p487
                        replace q487 := eq_true q487
                        have p55 : 0 ≤ ((rd t471 x9_3) : Int) := of_decide_eq_true (by first | (with_reducible assumption) | assumption)
                        have q55 : ((rd t471 x9_3) : Int) < ((x6_3.length : Int) : Int) := of_decide_eq_true (by first | (with_reducible assumption) | assumption)
                        obtain ⟨hx55_0, hf55_0⟩ := Kd.R_celln false HO_6.out ((rd t471 x9_3) : Int) p55 q55
                        replace p55 := eq_true p55
                        replace q55 := eq_true q55
                        have HP59 := Kd.R_putn HO_6.out ((rd t471 x9_3) : Int) true
                        rw [← Ny488.out] at HP59
                        have HQ59 := Aside0.mk HP59
                        clear HP59
                        refine start_ (n := 20) (S := fun w' => w'.cell? (ad474.add (x9_3).toNat) = some (.int .i64 (rd t471 x9_3)) ∧ w'.cell? (ad474.add (x9_3).toNat) = some (.int .i64 (rd t471 x9_3)) ∧ w'.cell? ⟨go18, ((rd t471 x9_3)).toNat, none⟩ = some (.bool true)) (ds := [19]) #[n_,n_,n_,n_,n_,n_,n_,n_,n_,n_,n_,n_,n_,n_,n_,n_,n_,n_,n_,n_] (by kernel_rfl) rfl rfl ⟨hx485_0, hx486_0, hx487_0⟩ (fun hHeld => ?_); refine with_tabW lockgatelaw06_FlowInside.tab20 lockgatelaw06_FlowInside.bits20 (fun HT_ HW_ => ?_)
                        generalize wr.drew = w58 at HO_3 HO_5 HO_6 HO_8 HB HQ59 hf55_0 hx485_0 hx486_0 hx487_0 hx55_0 hHeld ⊢
                        refine pq_ 0 87 #[y_,n_,n_,n_,n_,n_,n_,n_,n_,n_,n_,n_,n_,n_,n_,n_,n_,n_,n_,n_] ?_
                        refine pq_ 1 88 #[y_,y_,n_,n_,n_,n_,n_,n_,n_,n_,n_,n_,n_,n_,n_,n_,n_,n_,n_,n_] ?_
                        refine pq_ 2 89 #[y_,y_,y_,n_,n_,n_,n_,n_,n_,n_,n_,n_,n_,n_,n_,n_,n_,n_,n_,n_] ?_
                        refine pq_ 3 90 #[y_,y_,y_,y_,n_,n_,n_,n_,n_,n_,n_,n_,n_,n_,n_,n_,n_,n_,n_,n_] ?_
                        refine pq_ 5 92 #[y_,y_,y_,y_,n_,y_,n_,n_,n_,n_,n_,n_,n_,n_,n_,n_,n_,n_,n_,n_] ?_
                        refine pq_ 6 93 #[y_,y_,y_,y_,n_,y_,y_,n_,n_,n_,n_,n_,n_,n_,n_,n_,n_,n_,n_,n_] ?_
                        refine pq_ 7 94 #[y_,y_,y_,y_,n_,y_,y_,y_,n_,n_,n_,n_,n_,n_,n_,n_,n_,n_,n_,n_] ?_
                        refine pq_ 8 95 #[y_,y_,y_,y_,n_,y_,y_,y_,y_,n_,n_,n_,n_,n_,n_,n_,n_,n_,n_,n_] ?_
                        refine tq4_ 4 91 #[y_,y_,y_,y_,y_,y_,y_,y_,y_,n_,n_,n_,n_,n_,n_,n_,n_,n_,n_,n_] hHeld ?_
                        refine tq4_ 9 96 #[y_,y_,y_,y_,y_,y_,y_,y_,y_,y_,n_,n_,n_,n_,n_,n_,n_,n_,n_,n_] hHeld ?_
                        refine pq_ 10 97 #[y_,y_,y_,y_,y_,y_,y_,y_,y_,y_,y_,n_,n_,n_,n_,n_,n_,n_,n_,n_] ?_
                        refine tq4_ 11 98 #[y_,y_,y_,y_,y_,y_,y_,y_,y_,y_,y_,y_,n_,n_,n_,n_,n_,n_,n_,n_] hHeld ?_
                        refine pq_ 12 99 #[y_,y_,y_,y_,y_,y_,y_,y_,y_,y_,y_,y_,y_,n_,n_,n_,n_,n_,n_,n_] ?_
                        refine pu_ 13 100 #[y_,y_,y_,y_,y_,y_,y_,y_,y_,y_,y_,y_,y_,y_,n_,n_,n_,n_,n_,n_] ?_
                        refine pu_ 14 101 #[y_,y_,y_,y_,y_,y_,y_,y_,y_,y_,y_,y_,y_,y_,y_,n_,n_,n_,n_,n_] ?_
                        refine pu_ 15 102 #[y_,y_,y_,y_,y_,y_,y_,y_,y_,y_,y_,y_,y_,y_,y_,y_,n_,n_,n_,n_] ?_
                        refine pu_ 16 103 #[y_,y_,y_,y_,y_,y_,y_,y_,y_,y_,y_,y_,y_,y_,y_,y_,y_,n_,n_,n_] ?_
                        refine pq_ 17 104 #[y_,y_,y_,y_,y_,y_,y_,y_,y_,y_,y_,y_,y_,y_,y_,y_,y_,y_,n_,n_] ?_
                        refine pq_ 18 105 #[y_,y_,y_,y_,y_,y_,y_,y_,y_,y_,y_,y_,y_,y_,y_,y_,y_,y_,y_,n_] ?_
                        refine last_ (i := 19) (N := none) #[y_,y_,y_,y_,y_,y_,y_,y_,y_,y_,y_,y_,y_,y_,y_,y_,y_,y_,y_,y_] rfl rfl (one_of HT_.out (by kernel_rfl)) (by decide) (fun K hK => ?_)
                        refine skip_ (w1 := ?_) (by rfl) rfl ?_ ?_
                        rotate_left
                        ·go_simp
                         rfl
                        refine hK.out _ _ ?_
                        clear hK K
                        refine done_ (done_of HT_.out (by kernel_rfl)) ?_
                        try go_wp2
                        (try simp only [← hl6_3])
                        go_roundg k3
                        case measure => have := HJ6.out; have := HK2.out; have := HK3.out; omega
                        case rel => exact ⟨(y488), (wrap64 (x9_3 + 1)), (by first | rfl | (simp; done) | (simp [*]; done)), H', ⟨by have := HJ6.out; have := HK2.out; have := HK3.out; omega⟩, ⟨by (try simp only [hl6_2]); (try simp only [hl6_3]); (with_reducible repeat (first | apply Kd.R_alloc | apply Kd.R_drewN | apply Kd.R_drew)); exact Kd.R_mono (Kd.R_far (p := ⟨go18, ((rd t471 x9_3) : Int).toNat, none⟩) (Kd.R_types HO_3.out (Kd.R_typed HO_6.out _ rfl).choose_spec (by decide)) (fun _ hk => hk.2) (.bool true)) (fun _ hk => hk.1)⟩, ⟨by (try simp only [hl6_2]); (try simp only [hl6_3]); (with_reducible repeat (first | apply Kd.R_alloc | apply Kd.R_drewN | apply Kd.R_drew)); exact Kd.R_mono (Kd.R_far (p := ⟨go18, ((rd t471 x9_3) : Int).toNat, none⟩) (Kd.R_mono HO_5.out (fun k_ hk => (⟨hk, fun e_ => hk (by rw [e_]; rfl)⟩ : _ ∧ k_ ≠ go18))) (fun _ hk => hk.2) (.bool true)) (fun _ hk => hk.1)⟩, ⟨by (try simp only [hl6_2]); (try simp only [hl6_3]); (with_reducible repeat (first | apply Kd.R_alloc | apply Kd.R_drewN | apply Kd.R_drew)); exact HQ59.out⟩, ⟨by (try simp only [hl6_2]); (try simp only [hl6_3]); (with_reducible repeat (first | apply Kd.R_alloc | apply Kd.R_drewN | apply Kd.R_drew)); exact Kd.R_mono (Kd.R_far (p := ⟨go18, ((rd t471 x9_3) : Int).toNat, none⟩) (Kd.R_types HO_8.out (Kd.R_typed HO_6.out _ rfl).choose_spec (by decide)) (fun _ hk => hk.2) (.bool true)) (fun _ hk => hk.1)⟩, ⟨by repeat (first | (with_reducible first | exact HB.out | apply lA_ | apply lN_ | apply lD_ | refine below_set ?_ GB18.out) | exact HB.out)⟩⟩
                       ·replace c54 := Bool.eq_false_iff.mpr c54
                        subst c54
                        have H1 : (lockgatelaw06_FlowInside.l1 k3 l0 t456 t461 (x6_3.set ((rd t471 x9_3) : Int).toNat (false)) x7_2 t471 (wrap64 (x9_3 + 1))) = some r := by rw [if_neg (show ¬ (false = true) by decide)] at H; exact H
                        clear H
                        have H := H1
                        clear H1
                        obtain ⟨y490, hy490⟩ : ∃ y_ : List Bool, y_ = (x6_3.set ((rd t471 x9_3) : Int).toNat (false)) := ⟨_, rfl⟩
                        replace H : (lockgatelaw06_FlowInside.l1 k3 l0 t456 t461 y490 x7_2 t471 (wrap64 (x9_3 + 1))) = some r := by first | (rw [hy490]; with_reducible exact H) | (have H2_ := (Option.bind_some _ _).symm.trans H; rw [hy490]; with_reducible exact H2_) | (have H2_ := (Option.bind_some _ _).symm.trans H; with_reducible exact H2_) | with_reducible exact H | (rw [hy490]; exact H) | exact H
                        have Ny490 := Aside0.mk hy490
                        clear hy490
                        have H' := Aside0.mk H
                        clear H
                        obtain ⟨Ao61, co61, eo61⟩ := Kd.R_slice HO_8.out
                        subst eo61
                        have p474 : 0 ≤ (x9_3 : Int) := of_decide_eq_true (by first | (with_reducible assumption) | assumption)
                        have q474 : x9_3 < (t471.length : Int) := of_decide_eq_true (by first | (with_reducible assumption) | assumption)
                        obtain ⟨ad474, e474, hx474_0⟩ := Kd.at_int (Kd.R_reads' HO_8.out).2.2 x9_3 p474 q474
                        cases e474
                        replace p474 := eq_true p474
                        replace q474 := eq_true q474
                        have p475 : 0 ≤ (x9_3 : Int) := of_decide_eq_true (by first | (with_reducible assumption) | assumption)
                        have q475 : x9_3 < (t471.length : Int) := of_decide_eq_true (by first | (with_reducible assumption) | assumption)
                        obtain ⟨ad475, e475, hx475_0⟩ := Kd.at_int (Kd.R_reads' HO_8.out).2.2 x9_3 p475 q475
                        obtain rfl : ad474 = ad475 := (by injection e475)
                        replace p475 := eq_true p475
                        replace q475 := eq_true q475
                        obtain ⟨Ao62, co62, eo62⟩ := Kd.R_slice HO_5.out
                        subst eo62
                        have p476 : 0 ≤ (x7_2 : Int) := of_decide_eq_true (by first | (with_reducible assumption) | assumption)
                        have q476 : x7_2 < (t461.length : Int) := of_decide_eq_true (by first | (with_reducible assumption) | assumption)
                        obtain ⟨ad476, e476, hx476_0⟩ := Kd.at_bool (Kd.R_reads' HO_5.out).2.2 x7_2 p476 q476
                        (try rw [← Nbq32.out] at hx476_0)
                        (try rw [← Nbq53.out] at hx476_0)
                        cases e476
                        replace p476 := eq_true p476
                        replace q476 := eq_true q476
                        try go_wp2
                        replace HO_3 := Aside0.mk (Kd.R_drew HO_3.out)
                        replace HO_5 := Aside0.mk (Kd.R_drew HO_5.out)
                        replace HO_6 := Aside0.mk (Kd.R_drew HO_6.out)
                        replace HO_8 := Aside0.mk (Kd.R_drew HO_8.out)
                        replace HB := Aside0.mk (below_drew1 HB.out)
                        have p485 : 0 ≤ (x9_3 : Int) := of_decide_eq_true (by first | (with_reducible assumption) | assumption)
                        have q485 : x9_3 < (t471.length : Int) := of_decide_eq_true (by first | (with_reducible assumption) | assumption)
                        obtain ⟨ad485, e485, hx485_0⟩ := Kd.at_int (Kd.R_reads' HO_8.out).2.2 x9_3 p485 q485
                        obtain rfl : ad474 = ad485 := (by injection e485)
                        replace p485 := eq_true p485
                        replace q485 := eq_true q485
                        have p486 : 0 ≤ (x9_3 : Int) := of_decide_eq_true (by first | (with_reducible assumption) | assumption)
                        have q486 : x9_3 < (t471.length : Int) := of_decide_eq_true (by first | (with_reducible assumption) | assumption)
                        obtain ⟨ad486, e486, hx486_0⟩ := Kd.at_int (Kd.R_reads' HO_8.out).2.2 x9_3 p486 q486
                        obtain rfl : ad474 = ad486 := (by injection e486)
                        replace p486 := eq_true p486
                        replace q486 := eq_true q486
                        have p487 : 0 ≤ ((rd t471 x9_3) : Int) := of_decide_eq_true (by first | (with_reducible assumption) | assumption)
                        have q487 : (rd t471 x9_3) < (x6_3.length : Int) := of_decide_eq_true (by first | (with_reducible assumption) | assumption)
                        obtain ⟨ad487, e487, hx487_0⟩ := Kd.at_bool (Kd.R_reads' HO_6.out).2.2 (rd t471 x9_3) p487 q487
                        (try rw [← Nbq32.out] at hx487_0)
                        (try rw [← Nbq53.out] at hx487_0)
                        obtain rfl : (⟨go18, 0, none⟩ : Addr) = ad487 := (by injection e487)
                        (first | simp only [add_plain] at hx487_0 | simp only [add_at] at hx487_0 | simp only [Addr.add, Nat.zero_add] at hx487_0 | skip)
                        replace p487 := eq_true p487
                        replace q487 := eq_true q487
                        have p489 : 0 ≤ (x7_2 : Int) := of_decide_eq_true (by first | (with_reducible assumption) | assumption)
                        have q489 : x7_2 < (t461.length : Int) := of_decide_eq_true (by first | (with_reducible assumption) | assumption)
                        obtain ⟨ad489, e489, hx489_0⟩ := Kd.at_bool (Kd.R_reads' HO_5.out).2.2 x7_2 p489 q489
                        (try rw [← Nbq32.out] at hx489_0)
                        (try rw [← Nbq53.out] at hx489_0)
                        obtain rfl : ad476 = ad489 := (by injection e489)
                        replace p489 := eq_true p489
                        replace q489 := eq_true q489
                        have p60 : 0 ≤ ((rd t471 x9_3) : Int) := of_decide_eq_true (by first | (with_reducible assumption) | assumption)
                        have q60 : ((rd t471 x9_3) : Int) < ((x6_3.length : Int) : Int) := of_decide_eq_true (by first | (with_reducible assumption) | assumption)
                        obtain ⟨hx60_0, hf60_0⟩ := Kd.R_celln false HO_6.out ((rd t471 x9_3) : Int) p60 q60
                        replace p60 := eq_true p60
                        replace q60 := eq_true q60
                        have HP64 := Kd.R_putn HO_6.out ((rd t471 x9_3) : Int) false
                        rw [← Ny490.out] at HP64
                        have HQ64 := Aside0.mk HP64
                        clear HP64
                        refine start_ (n := 20) (S := fun w' => w'.cell? (ad474.add (x9_3).toNat) = some (.int .i64 (rd t471 x9_3)) ∧ w'.cell? (ad474.add (x9_3).toNat) = some (.int .i64 (rd t471 x9_3)) ∧ w'.cell? ⟨go18, ((rd t471 x9_3)).toNat, none⟩ = some (.bool false) ∧ w'.cell? (ad476.add (x7_2).toNat) = some (.bool (false))) (ds := [19]) #[n_,n_,n_,n_,n_,n_,n_,n_,n_,n_,n_,n_,n_,n_,n_,n_,n_,n_,n_,n_] (by kernel_rfl) rfl rfl ⟨hx485_0, hx486_0, hx487_0, hx489_0⟩ (fun hHeld => ?_); refine with_tabW lockgatelaw06_FlowInside.tab20 lockgatelaw06_FlowInside.bits20 (fun HT_ HW_ => ?_)
                        generalize wr.drew = w63 at HO_3 HO_5 HO_6 HO_8 HB HQ64 hf60_0 hx485_0 hx486_0 hx487_0 hx489_0 hx60_0 hHeld ⊢
                        refine pq_ 0 87 #[y_,n_,n_,n_,n_,n_,n_,n_,n_,n_,n_,n_,n_,n_,n_,n_,n_,n_,n_,n_] ?_
                        refine pq_ 1 88 #[y_,y_,n_,n_,n_,n_,n_,n_,n_,n_,n_,n_,n_,n_,n_,n_,n_,n_,n_,n_] ?_
                        refine pq_ 2 89 #[y_,y_,y_,n_,n_,n_,n_,n_,n_,n_,n_,n_,n_,n_,n_,n_,n_,n_,n_,n_] ?_
                        refine pq_ 3 90 #[y_,y_,y_,y_,n_,n_,n_,n_,n_,n_,n_,n_,n_,n_,n_,n_,n_,n_,n_,n_] ?_
                        refine pq_ 5 92 #[y_,y_,y_,y_,n_,y_,n_,n_,n_,n_,n_,n_,n_,n_,n_,n_,n_,n_,n_,n_] ?_
                        refine pq_ 6 93 #[y_,y_,y_,y_,n_,y_,y_,n_,n_,n_,n_,n_,n_,n_,n_,n_,n_,n_,n_,n_] ?_
                        refine pq_ 7 94 #[y_,y_,y_,y_,n_,y_,y_,y_,n_,n_,n_,n_,n_,n_,n_,n_,n_,n_,n_,n_] ?_
                        refine pq_ 8 95 #[y_,y_,y_,y_,n_,y_,y_,y_,y_,n_,n_,n_,n_,n_,n_,n_,n_,n_,n_,n_] ?_
                        refine tq5_ 4 91 #[y_,y_,y_,y_,y_,y_,y_,y_,y_,n_,n_,n_,n_,n_,n_,n_,n_,n_,n_,n_] hHeld ?_
                        refine tq5_ 9 96 #[y_,y_,y_,y_,y_,y_,y_,y_,y_,y_,n_,n_,n_,n_,n_,n_,n_,n_,n_,n_] hHeld ?_
                        refine pq_ 10 97 #[y_,y_,y_,y_,y_,y_,y_,y_,y_,y_,y_,n_,n_,n_,n_,n_,n_,n_,n_,n_] ?_
                        refine tq5_ 11 98 #[y_,y_,y_,y_,y_,y_,y_,y_,y_,y_,y_,y_,n_,n_,n_,n_,n_,n_,n_,n_] hHeld ?_
                        refine pq_ 12 99 #[y_,y_,y_,y_,y_,y_,y_,y_,y_,y_,y_,y_,y_,n_,n_,n_,n_,n_,n_,n_] ?_
                        refine pq_ 13 100 #[y_,y_,y_,y_,y_,y_,y_,y_,y_,y_,y_,y_,y_,y_,n_,n_,n_,n_,n_,n_] ?_
                        refine pq_ 14 101 #[y_,y_,y_,y_,y_,y_,y_,y_,y_,y_,y_,y_,y_,y_,y_,n_,n_,n_,n_,n_] ?_
                        refine pq_ 15 102 #[y_,y_,y_,y_,y_,y_,y_,y_,y_,y_,y_,y_,y_,y_,y_,y_,n_,n_,n_,n_] ?_
                        refine tq5_ 16 103 #[y_,y_,y_,y_,y_,y_,y_,y_,y_,y_,y_,y_,y_,y_,y_,y_,y_,n_,n_,n_] hHeld ?_
                        refine pq_ 17 104 #[y_,y_,y_,y_,y_,y_,y_,y_,y_,y_,y_,y_,y_,y_,y_,y_,y_,y_,n_,n_] ?_
                        refine pq_ 18 105 #[y_,y_,y_,y_,y_,y_,y_,y_,y_,y_,y_,y_,y_,y_,y_,y_,y_,y_,y_,n_] ?_
                        refine last_ (i := 19) (N := none) #[y_,y_,y_,y_,y_,y_,y_,y_,y_,y_,y_,y_,y_,y_,y_,y_,y_,y_,y_,y_] rfl rfl (one_of HT_.out (by kernel_rfl)) (by decide) (fun K hK => ?_)
                        refine skip_ (w1 := ?_) (by rfl) rfl ?_ ?_
                        rotate_left
                        ·go_simp
                         rfl
                        refine hK.out _ _ ?_
                        clear hK K
                        refine done_ (done_of HT_.out (by kernel_rfl)) ?_
                        try go_wp2
                        (try simp only [← hl6_3])
                        go_roundg k3
                        case measure => have := HJ6.out; have := HK2.out; have := HK3.out; omega
                        case rel => exact ⟨(y490), (wrap64 (x9_3 + 1)), (by first | rfl | (simp; done) | (simp [*]; done)), H', ⟨by have := HJ6.out; have := HK2.out; have := HK3.out; omega⟩, ⟨by (try simp only [hl6_2]); (try simp only [hl6_3]); (with_reducible repeat (first | apply Kd.R_alloc | apply Kd.R_drewN | apply Kd.R_drew)); exact Kd.R_mono (Kd.R_far (p := ⟨go18, ((rd t471 x9_3) : Int).toNat, none⟩) (Kd.R_types HO_3.out (Kd.R_typed HO_6.out _ rfl).choose_spec (by decide)) (fun _ hk => hk.2) (.bool false)) (fun _ hk => hk.1)⟩, ⟨by (try simp only [hl6_2]); (try simp only [hl6_3]); (with_reducible repeat (first | apply Kd.R_alloc | apply Kd.R_drewN | apply Kd.R_drew)); exact Kd.R_mono (Kd.R_far (p := ⟨go18, ((rd t471 x9_3) : Int).toNat, none⟩) (Kd.R_mono HO_5.out (fun k_ hk => (⟨hk, fun e_ => hk (by rw [e_]; rfl)⟩ : _ ∧ k_ ≠ go18))) (fun _ hk => hk.2) (.bool false)) (fun _ hk => hk.1)⟩, ⟨by (try simp only [hl6_2]); (try simp only [hl6_3]); (with_reducible repeat (first | apply Kd.R_alloc | apply Kd.R_drewN | apply Kd.R_drew)); exact HQ64.out⟩, ⟨by (try simp only [hl6_2]); (try simp only [hl6_3]); (with_reducible repeat (first | apply Kd.R_alloc | apply Kd.R_drewN | apply Kd.R_drew)); exact Kd.R_mono (Kd.R_far (p := ⟨go18, ((rd t471 x9_3) : Int).toNat, none⟩) (Kd.R_types HO_8.out (Kd.R_typed HO_6.out _ rfl).choose_spec (by decide)) (fun _ hk => hk.2) (.bool false)) (fun _ hk => hk.1)⟩, ⟨by repeat (first | (with_reducible first | exact HB.out | apply lA_ | apply lN_ | apply lD_ | refine below_set ?_ GB18.out) | exact HB.out)⟩⟩
                      ·rw [if_neg c52] at H
                       exact absurd H (by simp)
                     ·rw [if_neg c51] at H
                      exact absurd H (by simp)
                   ·rw [if_neg c31] at H
                    exact absurd H (by simp)
                  ·rw [if_neg c30] at H
                   exact absurd H (by simp)
               ·rw [if_neg c27] at H
                exact absurd H (by simp)
              ·rw [if_neg c26] at H
               have c26b0 : decide (x9_3 < (t471.length : Int)) = false := decide_eq_false c26
               clear c26
               by_cases c65 : (t471.length : Int) > 2
               ·rw [if_pos c65] at H
                have c65b0 : decide (2 < (t471.length : Int)) = true := decide_eq_true c65
                have c65b1 : decide (2 < t471.length) = true := decide_eq_true (by omega)
                clear c65
                exact absurd ((Option.some.inj H).trans HRT.out) (by decide)
               ·rw [if_neg c65] at H
                have c65b0 : decide (2 < (t471.length : Int)) = false := decide_eq_false c65
                have c65b1 : decide (2 < t471.length) = false := decide_eq_false (by omega)
                clear c65
                by_cases c66 : (t471.length : Int) = 2
                ·rw [if_pos c66] at H
                 have c66b0 : ((t471.length : Int) == 2) = true := beq_iff_eq.mpr c66
                 have c66b1 : ((t471.length : Int) != 2) = false := bne_eq_false_iff_eq.mpr c66
                 clear c66
                 by_cases c67 : 0 < (t471.length : Int)
                 ·rw [if_pos c67] at H
                  have c67b0 : decide (0 < (t471.length : Int)) = true := decide_eq_true c67
                  have c67b1 : decide (0 < t471.length) = true := decide_eq_true (by omega)
                  clear c67
                  by_cases c68 : 1 < (t471.length : Int)
                  ·rw [if_pos c68] at H
                   have c68b0 : decide (1 < (t471.length : Int)) = true := decide_eq_true c68
                   have c68b1 : decide (1 < t471.length) = true := decide_eq_true (by omega)
                   clear c68
                   by_cases c69 : (rd t471 0) = (rd t471 1)
                   ·rw [if_pos c69] at H
                    have c69b0 : ((rd t471 0) == (rd t471 1)) = true := beq_iff_eq.mpr c69
                    have c69b1 : ((rd t471 0) != (rd t471 1)) = false := bne_eq_false_iff_eq.mpr c69
                    clear c69
                    exact absurd ((Option.some.inj H).trans HRT.out) (by decide)
                   ·rw [if_neg c69] at H
                    have c69b0 : ((rd t471 0) == (rd t471 1)) = false := beq_eq_false_iff_ne.mpr c69
                    have c69b1 : ((rd t471 0) != (rd t471 1)) = true := bne_iff_ne.mpr c69
                    have H' := Aside0.mk H
                    clear H
                    obtain ⟨Ao70, co70, eo70⟩ := Kd.R_slice HO_8.out
                    subst eo70
                    try go_wp2
                    replace HO_3 := Aside0.mk (Kd.R_drew HO_3.out)
                    replace HO_5 := Aside0.mk (Kd.R_drew HO_5.out)
                    replace HO_6 := Aside0.mk (Kd.R_drew HO_6.out)
                    replace HO_8 := Aside0.mk (Kd.R_drew HO_8.out)
                    replace HB := Aside0.mk (below_drew1 HB.out)
                    have p491 : 0 ≤ (0 : Int) := (by omega)
                    have q491 : 0 < (t471.length : Int) := of_decide_eq_true (by first | (with_reducible assumption) | assumption)
                    obtain ⟨ad491, e491, hx491_0⟩ := Kd.at_int (Kd.R_reads' HO_8.out).2.2 0 p491 q491
                    cases e491
                    have qi491 : (0 < t471.length) = True := eq_true (by omega)
                    (try rw [show ((0 : Int)).toNat = 0 from rfl] at hx491_0)
                    (try rw [Addr.add_zero'] at hx491_0)
                    replace p491 := eq_true p491
                    replace q491 := eq_true q491
                    have p492 : 0 ≤ (1 : Int) := (by omega)
                    have q492 : 1 < (t471.length : Int) := of_decide_eq_true (by first | (with_reducible assumption) | assumption)
                    obtain ⟨ad492, e492, hx492_0⟩ := Kd.at_int (Kd.R_reads' HO_8.out).2.2 1 p492 q492
                    obtain rfl : ad491 = ad492 := (by injection e492)
                    (try simp only [show (1 : Int).toNat = 1 from rfl, Nat.reduceMul, Nat.reduceEqDiff, Go.Addr.add, ↓reduceIte] at hx492_0)
                    have qi492 : (1 < t471.length) = True := eq_true (by omega)
                    (try rw [show ((1 : Int)).toNat = 1 from rfl] at hx492_0)
                    replace p492 := eq_true p492
                    replace q492 := eq_true q492
                    refine start_ (n := 17) (S := fun w' => w'.cell? ad491 = some (.int .i64 (rd t471 0)) ∧ w'.cell? ⟨ad491.block, ad491.off + 1, none⟩ = some (.int .i64 (rd t471 1))) (ds := []) #[n_,n_,n_,n_,n_,n_,n_,n_,n_,n_,n_,n_,n_,n_,n_,n_,n_] (by kernel_rfl) rfl rfl ⟨hx491_0, hx492_0⟩ (fun hHeld => ?_); refine with_tabW lockgatelaw06_FlowInside.tab21 lockgatelaw06_FlowInside.bits21 (fun HT_ HW_ => ?_)
                    generalize wr.drew = w71 at HO_3 HO_5 HO_6 HO_8 HB hx491_0 hx492_0 hHeld ⊢
                    refine pq_ 0 106 #[y_,n_,n_,n_,n_,n_,n_,n_,n_,n_,n_,n_,n_,n_,n_,n_,n_] ?_
                    refine pq_ 1 107 #[y_,y_,n_,n_,n_,n_,n_,n_,n_,n_,n_,n_,n_,n_,n_,n_,n_] ?_
                    refine pq_ 2 108 #[y_,y_,y_,n_,n_,n_,n_,n_,n_,n_,n_,n_,n_,n_,n_,n_,n_] ?_
                    refine pq_ 3 109 #[y_,y_,y_,y_,n_,n_,n_,n_,n_,n_,n_,n_,n_,n_,n_,n_,n_] ?_
                    refine pq_ 4 110 #[y_,y_,y_,y_,y_,n_,n_,n_,n_,n_,n_,n_,n_,n_,n_,n_,n_] ?_
                    refine pq_ 5 111 #[y_,y_,y_,y_,y_,y_,n_,n_,n_,n_,n_,n_,n_,n_,n_,n_,n_] ?_
                    refine pq_ 6 112 #[y_,y_,y_,y_,y_,y_,y_,n_,n_,n_,n_,n_,n_,n_,n_,n_,n_] ?_
                    refine pq_ 7 113 #[y_,y_,y_,y_,y_,y_,y_,y_,n_,n_,n_,n_,n_,n_,n_,n_,n_] ?_
                    refine pq_ 8 114 #[y_,y_,y_,y_,y_,y_,y_,y_,y_,n_,n_,n_,n_,n_,n_,n_,n_] ?_
                    refine pq_ 9 115 #[y_,y_,y_,y_,y_,y_,y_,y_,y_,y_,n_,n_,n_,n_,n_,n_,n_] ?_
                    refine pq_ 11 117 #[y_,y_,y_,y_,y_,y_,y_,y_,y_,y_,n_,y_,n_,n_,n_,n_,n_] ?_
                    refine pq_ 12 118 #[y_,y_,y_,y_,y_,y_,y_,y_,y_,y_,n_,y_,y_,n_,n_,n_,n_] ?_
                    refine tq6_ 10 116 #[y_,y_,y_,y_,y_,y_,y_,y_,y_,y_,y_,y_,y_,n_,n_,n_,n_] hHeld ?_
                    refine tq6_ 13 119 #[y_,y_,y_,y_,y_,y_,y_,y_,y_,y_,y_,y_,y_,y_,n_,n_,n_] hHeld ?_
                    refine pq_ 14 120 #[y_,y_,y_,y_,y_,y_,y_,y_,y_,y_,y_,y_,y_,y_,y_,n_,n_] ?_
                    refine pq_ 15 121 #[y_,y_,y_,y_,y_,y_,y_,y_,y_,y_,y_,y_,y_,y_,y_,y_,n_] ?_
                    refine pq_ 16 122 #[y_,y_,y_,y_,y_,y_,y_,y_,y_,y_,y_,y_,y_,y_,y_,y_,y_] ?_
                    refine done_ (done_of HT_.out (by kernel_rfl)) ?_
                    try go_wp2
                    (try simp only [← hl6_2, ← hl6_3])
                    go_roundg k3
                    case measure => have := HJ6.out; have := HK2.out; have := HK3.out; omega
                    case rel => exact ⟨(x6_3), (wrap64 (x7_2 + 1)), (by first | rfl | (simp; done) | (simp [*]; done)), H', ⟨by have := HJ6.out; have := HK2.out; have := HK3.out; omega⟩, ⟨by (try simp only [hl6_2]); (try simp only [hl6_3]); (with_reducible repeat (first | apply Kd.R_alloc | apply Kd.R_drewN | apply Kd.R_drew)); exact Kd.R_mono HO_3.out (fun _ hk => trivial)⟩, ⟨by (try simp only [hl6_2]); (try simp only [hl6_3]); (with_reducible repeat (first | apply Kd.R_alloc | apply Kd.R_drewN | apply Kd.R_drew)); exact HO_5.out⟩, ⟨by (try simp only [hl6_2]); (try simp only [hl6_3]); (with_reducible repeat (first | apply Kd.R_alloc | apply Kd.R_drewN | apply Kd.R_drew)); exact HO_6.out⟩, ⟨bz_⟩⟩
                  ·rw [if_neg c68] at H
                   exact absurd H (by simp)
                 ·rw [if_neg c67] at H
                  exact absurd H (by simp)
                ·rw [if_neg c66] at H
                 have c66b0 : ((t471.length : Int) == 2) = false := beq_eq_false_iff_ne.mpr c66
                 have c66b1 : ((t471.length : Int) != 2) = true := bne_iff_ne.mpr c66
                 have H' := Aside0.mk H
                 clear H
                 obtain ⟨Ao72, co72, eo72⟩ := Kd.R_slice HO_8.out
                 subst eo72
                 try go_wp2
                 replace HO_3 := Aside0.mk (Kd.R_drew HO_3.out)
                 replace HO_5 := Aside0.mk (Kd.R_drew HO_5.out)
                 replace HO_6 := Aside0.mk (Kd.R_drew HO_6.out)
                 replace HO_8 := Aside0.mk (Kd.R_drew HO_8.out)
                 replace HB := Aside0.mk (below_drew1 HB.out)
                 refine start_ (n := 17) (S := fun w' => True) (ds := []) #[n_,n_,n_,n_,n_,n_,n_,n_,n_,n_,n_,n_,n_,n_,n_,n_,n_] (by kernel_rfl) rfl rfl trivial (fun hHeld => ?_); refine with_tabW lockgatelaw06_FlowInside.tab21 lockgatelaw06_FlowInside.bits21 (fun HT_ HW_ => ?_)
                 generalize wr.drew = w73 at HO_3 HO_5 HO_6 HO_8 HB hHeld ⊢
                 refine pq_ 0 106 #[y_,n_,n_,n_,n_,n_,n_,n_,n_,n_,n_,n_,n_,n_,n_,n_,n_] ?_
                 refine pq_ 1 107 #[y_,y_,n_,n_,n_,n_,n_,n_,n_,n_,n_,n_,n_,n_,n_,n_,n_] ?_
                 refine pq_ 2 108 #[y_,y_,y_,n_,n_,n_,n_,n_,n_,n_,n_,n_,n_,n_,n_,n_,n_] ?_
                 refine pq_ 3 109 #[y_,y_,y_,y_,n_,n_,n_,n_,n_,n_,n_,n_,n_,n_,n_,n_,n_] ?_
                 refine pq_ 4 110 #[y_,y_,y_,y_,y_,n_,n_,n_,n_,n_,n_,n_,n_,n_,n_,n_,n_] ?_
                 refine pq_ 5 111 #[y_,y_,y_,y_,y_,y_,n_,n_,n_,n_,n_,n_,n_,n_,n_,n_,n_] ?_
                 refine pq_ 6 112 #[y_,y_,y_,y_,y_,y_,y_,n_,n_,n_,n_,n_,n_,n_,n_,n_,n_] ?_
                 refine pq_ 7 113 #[y_,y_,y_,y_,y_,y_,y_,y_,n_,n_,n_,n_,n_,n_,n_,n_,n_] ?_
                 refine pu_ 8 114 #[y_,y_,y_,y_,y_,y_,y_,y_,y_,n_,n_,n_,n_,n_,n_,n_,n_] ?_
                 refine pu_ 9 115 #[y_,y_,y_,y_,y_,y_,y_,y_,y_,y_,n_,n_,n_,n_,n_,n_,n_] ?_
                 refine pu_ 10 116 #[y_,y_,y_,y_,y_,y_,y_,y_,y_,y_,y_,n_,n_,n_,n_,n_,n_] ?_
                 refine pu_ 11 117 #[y_,y_,y_,y_,y_,y_,y_,y_,y_,y_,y_,y_,n_,n_,n_,n_,n_] ?_
                 refine pu_ 12 118 #[y_,y_,y_,y_,y_,y_,y_,y_,y_,y_,y_,y_,y_,n_,n_,n_,n_] ?_
                 refine pu_ 13 119 #[y_,y_,y_,y_,y_,y_,y_,y_,y_,y_,y_,y_,y_,y_,n_,n_,n_] ?_
                 refine pu_ 14 120 #[y_,y_,y_,y_,y_,y_,y_,y_,y_,y_,y_,y_,y_,y_,y_,n_,n_] ?_
                 refine pq_ 15 121 #[y_,y_,y_,y_,y_,y_,y_,y_,y_,y_,y_,y_,y_,y_,y_,y_,n_] ?_
                 refine pq_ 16 122 #[y_,y_,y_,y_,y_,y_,y_,y_,y_,y_,y_,y_,y_,y_,y_,y_,y_] ?_
                 refine done_ (done_of HT_.out (by kernel_rfl)) ?_
                 try go_wp2
                 (try simp only [← hl6_2, ← hl6_3])
                 go_roundg k3
                 case measure => have := HJ6.out; have := HK2.out; have := HK3.out; omega
                 case rel => exact ⟨(x6_3), (wrap64 (x7_2 + 1)), (by first | rfl | (simp; done) | (simp [*]; done)), H', ⟨by have := HJ6.out; have := HK2.out; have := HK3.out; omega⟩, ⟨by (try simp only [hl6_2]); (try simp only [hl6_3]); (with_reducible repeat (first | apply Kd.R_alloc | apply Kd.R_drewN | apply Kd.R_drew)); exact Kd.R_mono HO_3.out (fun _ hk => trivial)⟩, ⟨by (try simp only [hl6_2]); (try simp only [hl6_3]); (with_reducible repeat (first | apply Kd.R_alloc | apply Kd.R_drewN | apply Kd.R_drew)); exact HO_5.out⟩, ⟨by (try simp only [hl6_2]); (try simp only [hl6_3]); (with_reducible repeat (first | apply Kd.R_alloc | apply Kd.R_drewN | apply Kd.R_drew)); exact HO_6.out⟩, ⟨bz_⟩⟩
           ·rw [if_neg c23] at H
            have c23b0 : decide (x7_2 < (l0.length : Int)) = false := decide_eq_false c23
            clear c23
            replace H := Option.bind_eq_some_iff.mp H
            obtain ⟨t469, A740, H⟩ := H
            replace H : (if t469 = true then ((lockgatelaw06_works.f k2).bind fun t470 => (some t470)) else (some false)) = some r := H
            have A74 := Aside0.mk A740
            clear A740
            by_cases c75 : t469 = true
            ·subst c75
             have H1 : ((lockgatelaw06_works.f k2).bind fun t470 => (some t470)) = some r := by rw [if_pos rfl] at H; exact H
             clear H
             have H := H1
             clear H1
             replace H := Option.bind_eq_some_iff.mp H
             obtain ⟨t470, A760, H⟩ := H
             replace H : (some t470) = some r := H
             have A76 := Aside0.mk A760
             clear A760
             obtain rfl := Option.some.inj H
             obtain ⟨Ao77, co77, eo77⟩ := Kd.R_slice HO_5.out
             subst eo77
             go_wp2_with (first | ((with_reducible refine gate_callee (f := 20) rfl ?_); refine goesL_ (some 125) rfl rfl Try.func20 (by kernel_rfl) rfl #[.slice Ao77 t461.length co77, .slice (some ⟨go18, 0, none⟩) x6_2.length co18] rfl mp_ ?_; (with_reducible refine (lockgatelaw06_same.calls k2 _ _ t461 _ _ x6_2 true _ ?side1 ?side2 ?side3 ?side4 A74.out).mono ?_); (case side1 => repeat (first | exact (Kd.R_reads' HO_5.out).2.2 | (with_reducible refine Kd.C_alloc ?_ _) | (with_reducible refine Kd.C_drewN ?_ _) | (with_reducible refine Kd.C_drew ?_))); (case side2 => exact (Kd.R_reads' HO_5.out).2.1); (case side3 => repeat (first | exact (Kd.R_reads' HO_6.out).2.2 | (with_reducible refine Kd.C_alloc ?_ _) | (with_reducible refine Kd.C_drewN ?_ _) | (with_reducible refine Kd.C_drew ?_))); (case side4 => exact (Kd.R_reads' HO_6.out).2.1); rintro e w' ⟨rfl, ⟨nd, rfl⟩⟩; refine ⟨_, rfl, ?_⟩) | (go_at_call 9; (with_reducible refine (lockgatelaw06_works.calls k2  t470 _ A76.out).mono ?_); rintro e w78 ⟨rfl, hb⟩; replace HO_3 := Aside0.mk (Kd.R_below (by (with_reducible repeat (first | apply Kd.R_alloc | apply Kd.R_drewN | apply Kd.R_drew)); exact HO_3.out) hb); replace HO_5 := Aside0.mk (Kd.R_below (by (with_reducible repeat (first | apply Kd.R_alloc | apply Kd.R_drewN | apply Kd.R_drew)); exact HO_5.out) hb); replace HO_6 := Aside0.mk (Kd.R_below (by (with_reducible repeat (first | apply Kd.R_alloc | apply Kd.R_drewN | apply Kd.R_drew)); exact HO_6.out) hb); replace HB := bl_ hb; (try clear hb); (try clear hb2); (try clear hk); (try clear hi)))
             go_ret
             exact ⟨vv_, bz_⟩
            ·replace c75 := Bool.eq_false_iff.mpr c75
             subst c75
             have H1 : (some false) = some r := by rw [if_neg (show ¬ (false = true) by decide)] at H; exact H
             clear H
             have H := H1
             clear H1
             exact absurd ((Option.some.inj H).trans HRT.out) (by decide)
        ·rw [if_neg c17] at H
         exact absurd H (by simp)
       ·rw [if_neg c16] at H
        exact absurd H (by simp)
      ·rw [if_neg c15] at H
       exact absurd H (by simp)
  ·rw [if_neg c5] at H
   have c5b0 : (t457 == 0) = false := beq_eq_false_iff_ne.mpr c5
   have c5b1 : (t457 != 0) = true := bne_iff_ne.mpr c5
   replace H := Option.bind_eq_some_iff.mp H
   obtain ⟨t460, A790, H⟩ := H
   replace H : (some t460) = some r := H
   have A79 := Aside0.mk A790
   clear A790
   obtain rfl := Option.some.inj H
   go_enter Try.func5, Try.ntmps5
   go_wp2_with (first | ((with_reducible refine gate_callee (f := 8) rfl ?_); refine goesL_ (some 11) rfl rfl Try.func8 (by kernel_rfl) rfl #[.slice A0 l0.length c0] rfl mp_ ?_; (with_reducible refine (lockgatelaw06_right.calls k _ _ l0 true _ ?side1 ?side2 A2.out).mono ?_); (case side1 => repeat (first | exact HR0.out | (with_reducible refine Kd.C_alloc ?_ _) | (with_reducible refine Kd.C_drewN ?_ _) | (with_reducible refine Kd.C_drew ?_))); (case side2 => exact HC0.out); rintro e w' ⟨rfl, ⟨nd, rfl⟩⟩; refine ⟨_, rfl, ?_⟩) | ((with_reducible refine gate_callee (f := 11) rfl ?_); refine goesL_ (some 16) rfl rfl Try.func11 (by kernel_rfl) rfl #[.slice A0 l0.length c0] rfl mp_ ?_; (with_reducible refine (flow_Targets.calls k _ _ l0 t456 t457 _ ?side1 ?side2 A4.out).mono ?_); (case side1 => repeat (first | exact HR0.out | (with_reducible refine Kd.C_alloc ?_ _) | (with_reducible refine Kd.C_drewN ?_ _) | (with_reducible refine Kd.C_drew ?_))); (case side2 => exact HC0.out); rintro e w80 ⟨v458, rfl, ho0, hb⟩; refine ⟨_, rfl, ?_⟩; have HO459 := Aside0.mk (Kd.R_lower ho0 (below_size bz_)); replace HB := bl_ hb; (try clear hb); (try clear hb2); (try clear hk); (try clear hi); (try clear ho0)) | ((with_reducible refine gate_callee (f := 9) rfl ?_); refine gM_ 21 Try.func9 (lockgatelaw06_works.calls k  t460 _ A79.out) ?_; intro w81 hb; replace HO459 := Aside0.mk (Kd.R_below (by (with_reducible repeat (first | apply Kd.R_alloc | apply Kd.R_drewN | apply Kd.R_drew)); exact HO459.out) hb); replace HB := bl_ hb; (try clear hb); (try clear hb2); (try clear hk); (try clear hi)))
   go_ret
   exact ⟨vv_, bz_⟩
 ·replace c3 := Bool.eq_false_iff.mpr c3
  subst c3
  have H1 : ((lockgatelaw06_works.f k).bind fun t455 => (some t455)) = some r := by rw [if_neg (show ¬ (false = true) by decide)] at H; exact H
  clear H
  have H := H1
  clear H1
  replace H := Option.bind_eq_some_iff.mp H
  obtain ⟨t455, A820, H⟩ := H
  replace H : (some t455) = some r := H
  have A82 := Aside0.mk A820
  clear A820
  obtain rfl := Option.some.inj H
  go_enter Try.func5, Try.ntmps5
  go_wp2_with (first | ((with_reducible refine gate_callee (f := 8) rfl ?_); refine goesL_ (some 11) rfl rfl Try.func8 (by kernel_rfl) rfl #[.slice A0 l0.length c0] rfl mp_ ?_; (with_reducible refine (lockgatelaw06_right.calls k _ _ l0 false _ ?side1 ?side2 A2.out).mono ?_); (case side1 => repeat (first | exact HR0.out | (with_reducible refine Kd.C_alloc ?_ _) | (with_reducible refine Kd.C_drewN ?_ _) | (with_reducible refine Kd.C_drew ?_))); (case side2 => exact HC0.out); rintro e w' ⟨rfl, ⟨nd, rfl⟩⟩; refine ⟨_, rfl, ?_⟩) | ((with_reducible refine gate_callee (f := 9) rfl ?_); refine gM_ 13 Try.func9 (lockgatelaw06_works.calls k  t455 _ A82.out) ?_; intro w83 hb; replace HB := bl_ hb; (try clear hb); (try clear hb2); (try clear hk); (try clear hi)))
  go_ret
  exact ⟨vv_, bz_⟩

end Go.Proofs.Ytkcneaaoghgllaa.PA
