-- PRINTED by print.py (a twelfth state) out of the translation. Not trusted: Lean checks it.
import Derived.Test.YtkcneaaoghgllaaWTab
import Derived.Test.YtkcneaaoghgllaaPA0
import Derived.Test.YtkcneaaoghgllaaSq
import Derived.Test.YtkcneaaoghgllaaPA4
import Derived.Test.YtkcneaaoghgllaaPA5
import Derived.Test.YtkcneaaoghgllaaPA6
import Derived.Test.YtkcneaaoghgllaaPA7
import Derived.Test.YtkcneaaoghgllaaPA8
import Derived.Test.YtkcneaaoghgllaaPA9
import Derived.Test.YtkcneaaoghgllaaPA10
import Derived.Test.YtkcneaaoghgllaaPA13
import Derived.Test.YtkcneaaoghgllaaPA14
import Derived.Test.YtkcneaaoghgllaaPA15
import Derived.Test.YtkcneaaoghgllaaPA16
import Derived.Test.YtkcneaaoghgllaaPA17
import Derived.Test.YtkcneaaoghgllaaPA18
namespace Go.Proofs.Ytkcneaaoghgllaa.PA
open Go.RowKit Go.Proofs.YtkcneaaoghgllaaW.PrintWords Go.Proofs.YtkcneaaoghgllaaW.PrintLast Go.Proofs.YtkcneaaoghgllaaW.PrintMore
attribute [local go_sem] max2_int min2_int max_two min_two max_three min_three max_four min_four   -- for this text's walks alone
set_option linter.unusedVariables false
set_option linter.unusedSimpArgs false

/-! ### lockgatelaw06_FlowTells: function 3 -/
mutual
def lockgatelaw06_FlowTells.j0 : Nat → List (S42) → Int → List (S42) → List Int → Int → List Int → Bool → Option (Bool)
 | 0, _, _, _, _, _, _, _ => none
 | k + 1, x0, x1, x5, x6, x7, x8, x42 => if x42 = true then (some false) else (if x7 = 0 then ((lockgatekit_LentInts.f k x8).bind fun t361 => (if 0 ≤ (x0.length : Int) then (if (x0.length : Int) ≤ (x5.length : Int) then (if 0 ≤ (x8.length : Int) then (if (x8.length : Int) ≤ (t361.length : Int) then ((flow_Next.f k (x5.take ((x0.length : Int) : Int).toNat) (t361.take ((x8.length : Int) : Int).toNat) x1).bind fun t372 => ((flow_Heads.f k (x5.take ((x0.length : Int) : Int).toNat) (t361.take ((x8.length : Int) : Int).toNat)).bind fun t383 => ((flow_Reached.f k (x5.take ((x0.length : Int) : Int).toNat) (t361.take ((x8.length : Int) : Int).toNat)).bind fun t394 => ((lockgatekit_SpoilInts.f k x6).bind fun t397 => ((lockgateref06_Next.f k x0 x8 x1).bind fun t398 => ((lockgatekit_SameInts.f k t372 t398).bind fun t401 => (if t401 = true then ((lockgateref06_Heads.f k x0 x8).bind fun t402 => ((lockgatelaw06_same.f k t383 t402).bind fun t405 => (if t405 = true then ((lockgateref06_Reached.f k x0 x8).bind fun t406 => ((lockgatelaw06_same.f k t394 t406).bind fun t409 => (lockgatelaw06_FlowTells.j1 k x0 x5 x8 t361 t372 (!t409)))) else (lockgatelaw06_FlowTells.j1 k x0 x5 x8 t361 t372 true)))) else (lockgatelaw06_FlowTells.j1 k x0 x5 x8 t361 t372 true)))))))) else (none)) else (none)) else (none)) else (none))) else ((lockgatelaw06_works.f k).bind fun t360 => (some t360)))
def lockgatelaw06_FlowTells.j1 : Nat → List (S42) → List (S42) → List Int → List Int → List Int → Bool → Option (Bool)
 | 0, _, _, _, _, _, _ => none
 | k + 1, x0, x5, x8, x10, x11, x100 => if x100 = true then (some false) else ((lockgatekit_SpoilInts.f k x11).bind fun t410 => (lockgatelaw06_FlowTells.l0 k x0 x5 x8 x10 0))
def lockgatelaw06_FlowTells.l0 : Nat → List (S42) → List (S42) → List Int → List Int → Int → Option (Bool)
 | 0, _, _, _, _, _ => none
 | k + 1, x0, x5, x8, x10, x14 => if x14 < (x0.length : Int) then ((flow_Next.f k x0 x8 x14).bind fun t414 => ((lockgateref06_Next.f k x0 x8 x14).bind fun t417 => ((lockgatekit_SameInts.f k t414 t417).bind fun t420 => (if t420 = true then (lockgatelaw06_FlowTells.l0 k x0 x5 x8 x10 (wrap64 (x14 + 1))) else (some false))))) else ((lockgatekit_KeptInsns.f k x5 x0).bind fun t411 => (if t411 = true then ((lockgatekit_KeptInts.f k x10 x8).bind fun t412 => (if t412 = true then ((lockgatelaw06_works.f k).bind fun t413 => (some t413)) else (some false))) else (some false)))
end
def lockgatelaw06_FlowTells.f (k : Nat) (l0 : List (S42)) (a1 : Int) : Option (Bool) := (lockgatelaw06_right.f k l0).bind fun t342 => (if t342 = true then ((lockgatekit_LentInsns.f k l0).bind fun t344 => (if 0 ≤ (l0.length : Int) then (if (l0.length : Int) ≤ (t344.length : Int) then ((flow_Targets.f k (t344.take ((l0.length : Int) : Int).toNat)).bind fun bt351 => ((lockgateref06_Targets.f k l0).bind fun bt355 => (if bt351.2 = bt355.2 then ((lockgatekit_SameInts.f k bt351.1 bt355.1).bind fun t359 => (lockgatelaw06_FlowTells.j0 k l0 a1 t344 bt351.1 bt351.2 bt355.1 (!t359))) else (lockgatelaw06_FlowTells.j0 k l0 a1 t344 bt351.1 bt351.2 bt355.1 true)))) else (none)) else (none))) else ((lockgatelaw06_works.f k).bind fun t343 => (some t343)))
theorem lockgatelaw06_FlowTells.mono_l : ∀ k, (∀ y0 y1 y2 y3 y4 y5 y6, LeO (lockgatelaw06_FlowTells.j0 k y0 y1 y2 y3 y4 y5 y6) (lockgatelaw06_FlowTells.j0 (k + 1) y0 y1 y2 y3 y4 y5 y6)) ∧ (∀ y0 y1 y2 y3 y4 y5, LeO (lockgatelaw06_FlowTells.j1 k y0 y1 y2 y3 y4 y5) (lockgatelaw06_FlowTells.j1 (k + 1) y0 y1 y2 y3 y4 y5)) ∧ (∀ y0 y1 y2 y3 y4, LeO (lockgatelaw06_FlowTells.l0 k y0 y1 y2 y3 y4) (lockgatelaw06_FlowTells.l0 (k + 1) y0 y1 y2 y3 y4))
 | 0 => ⟨fun _ _ _ _ _ _ _ r h => by simp [lockgatelaw06_FlowTells.j0] at h, fun _ _ _ _ _ _ r h => by simp [lockgatelaw06_FlowTells.j1] at h, fun _ _ _ _ _ r h => by simp [lockgatelaw06_FlowTells.l0] at h⟩
 | k + 1 => by
  obtain ⟨ih0, ih1, ih2⟩ := lockgatelaw06_FlowTells.mono_l k
  refine ⟨?_, ?_, ?_⟩
  ·intro y0 y1 y2 y3 y4 y5 y6
   unfold lockgatelaw06_FlowTells.j0
   repeat' first
   | (with_reducible exact ih0 _ _ _ _ _ _ _)
   | (with_reducible exact ih1 _ _ _ _ _ _)
   | (with_reducible exact ih2 _ _ _ _ _)
   | (with_reducible exact flow_Heads.mono _ _ _)
   | (with_reducible exact flow_Next.mono _ _ _ _)
   | (with_reducible exact flow_Reached.mono _ _ _)
   | (with_reducible exact flow_Targets.mono _ _)
   | (with_reducible exact lockgatekit_KeptInsns.mono _ _ _)
   | (with_reducible exact lockgatekit_KeptInts.mono _ _ _)
   | (with_reducible exact lockgatekit_LentInsns.mono _ _)
   | (with_reducible exact lockgatekit_LentInts.mono _ _)
   | (with_reducible exact lockgatekit_SameInts.mono _ _ _)
   | (with_reducible exact lockgatekit_SpoilInts.mono _ _)
   | (with_reducible exact lockgatelaw06_right.mono _ _)
   | (with_reducible exact lockgatelaw06_same.mono _ _ _)
   | (with_reducible exact lockgatelaw06_works.mono _)
   | (with_reducible exact lockgateref06_Heads.mono _ _ _)
   | (with_reducible exact lockgateref06_Next.mono _ _ _ _)
   | (with_reducible exact lockgateref06_Reached.mono _ _ _)
   | (with_reducible exact lockgateref06_Targets.mono _ _)
   | (with_reducible exact LeO.refl _)
   | (with_reducible exact LeO.none _)
   | (with_reducible refine LeO.ite ?_ ?_)
   | (with_reducible refine LeO.bind ?_ (fun _ => ?_))
   | exact ih0 _ _ _ _ _ _ _
   | exact ih1 _ _ _ _ _ _
   | exact ih2 _ _ _ _ _
   | exact flow_Heads.mono _ _ _
   | exact flow_Next.mono _ _ _ _
   | exact flow_Reached.mono _ _ _
   | exact flow_Targets.mono _ _
   | exact lockgatekit_KeptInsns.mono _ _ _
   | exact lockgatekit_KeptInts.mono _ _ _
   | exact lockgatekit_LentInsns.mono _ _
   | exact lockgatekit_LentInts.mono _ _
   | exact lockgatekit_SameInts.mono _ _ _
   | exact lockgatekit_SpoilInts.mono _ _
   | exact lockgatelaw06_right.mono _ _
   | exact lockgatelaw06_same.mono _ _ _
   | exact lockgatelaw06_works.mono _
   | exact lockgateref06_Heads.mono _ _ _
   | exact lockgateref06_Next.mono _ _ _ _
   | exact lockgateref06_Reached.mono _ _ _
   | exact lockgateref06_Targets.mono _ _
   | exact LeO.none _
   | refine LeO.ite ?_ ?_
   | refine LeO.bind ?_ (fun _ => ?_)
  ·intro y0 y1 y2 y3 y4 y5
   unfold lockgatelaw06_FlowTells.j1
   repeat' first
   | (with_reducible exact ih0 _ _ _ _ _ _ _)
   | (with_reducible exact ih1 _ _ _ _ _ _)
   | (with_reducible exact ih2 _ _ _ _ _)
   | (with_reducible exact flow_Heads.mono _ _ _)
   | (with_reducible exact flow_Next.mono _ _ _ _)
   | (with_reducible exact flow_Reached.mono _ _ _)
   | (with_reducible exact flow_Targets.mono _ _)
   | (with_reducible exact lockgatekit_KeptInsns.mono _ _ _)
   | (with_reducible exact lockgatekit_KeptInts.mono _ _ _)
   | (with_reducible exact lockgatekit_LentInsns.mono _ _)
   | (with_reducible exact lockgatekit_LentInts.mono _ _)
   | (with_reducible exact lockgatekit_SameInts.mono _ _ _)
   | (with_reducible exact lockgatekit_SpoilInts.mono _ _)
   | (with_reducible exact lockgatelaw06_right.mono _ _)
   | (with_reducible exact lockgatelaw06_same.mono _ _ _)
   | (with_reducible exact lockgatelaw06_works.mono _)
   | (with_reducible exact lockgateref06_Heads.mono _ _ _)
   | (with_reducible exact lockgateref06_Next.mono _ _ _ _)
   | (with_reducible exact lockgateref06_Reached.mono _ _ _)
   | (with_reducible exact lockgateref06_Targets.mono _ _)
   | (with_reducible exact LeO.refl _)
   | (with_reducible exact LeO.none _)
   | (with_reducible refine LeO.ite ?_ ?_)
   | (with_reducible refine LeO.bind ?_ (fun _ => ?_))
   | exact ih0 _ _ _ _ _ _ _
   | exact ih1 _ _ _ _ _ _
   | exact ih2 _ _ _ _ _
   | exact flow_Heads.mono _ _ _
   | exact flow_Next.mono _ _ _ _
   | exact flow_Reached.mono _ _ _
   | exact flow_Targets.mono _ _
   | exact lockgatekit_KeptInsns.mono _ _ _
   | exact lockgatekit_KeptInts.mono _ _ _
   | exact lockgatekit_LentInsns.mono _ _
   | exact lockgatekit_LentInts.mono _ _
   | exact lockgatekit_SameInts.mono _ _ _
   | exact lockgatekit_SpoilInts.mono _ _
   | exact lockgatelaw06_right.mono _ _
   | exact lockgatelaw06_same.mono _ _ _
   | exact lockgatelaw06_works.mono _
   | exact lockgateref06_Heads.mono _ _ _
   | exact lockgateref06_Next.mono _ _ _ _
   | exact lockgateref06_Reached.mono _ _ _
   | exact lockgateref06_Targets.mono _ _
   | exact LeO.none _
   | refine LeO.ite ?_ ?_
   | refine LeO.bind ?_ (fun _ => ?_)
  ·intro y0 y1 y2 y3 y4
   unfold lockgatelaw06_FlowTells.l0
   repeat' first
   | (with_reducible exact ih0 _ _ _ _ _ _ _)
   | (with_reducible exact ih1 _ _ _ _ _ _)
   | (with_reducible exact ih2 _ _ _ _ _)
   | (with_reducible exact flow_Heads.mono _ _ _)
   | (with_reducible exact flow_Next.mono _ _ _ _)
   | (with_reducible exact flow_Reached.mono _ _ _)
   | (with_reducible exact flow_Targets.mono _ _)
   | (with_reducible exact lockgatekit_KeptInsns.mono _ _ _)
   | (with_reducible exact lockgatekit_KeptInts.mono _ _ _)
   | (with_reducible exact lockgatekit_LentInsns.mono _ _)
   | (with_reducible exact lockgatekit_LentInts.mono _ _)
   | (with_reducible exact lockgatekit_SameInts.mono _ _ _)
   | (with_reducible exact lockgatekit_SpoilInts.mono _ _)
   | (with_reducible exact lockgatelaw06_right.mono _ _)
   | (with_reducible exact lockgatelaw06_same.mono _ _ _)
   | (with_reducible exact lockgatelaw06_works.mono _)
   | (with_reducible exact lockgateref06_Heads.mono _ _ _)
   | (with_reducible exact lockgateref06_Next.mono _ _ _ _)
   | (with_reducible exact lockgateref06_Reached.mono _ _ _)
   | (with_reducible exact lockgateref06_Targets.mono _ _)
   | (with_reducible exact LeO.refl _)
   | (with_reducible exact LeO.none _)
   | (with_reducible refine LeO.ite ?_ ?_)
   | (with_reducible refine LeO.bind ?_ (fun _ => ?_))
   | exact ih0 _ _ _ _ _ _ _
   | exact ih1 _ _ _ _ _ _
   | exact ih2 _ _ _ _ _
   | exact flow_Heads.mono _ _ _
   | exact flow_Next.mono _ _ _ _
   | exact flow_Reached.mono _ _ _
   | exact flow_Targets.mono _ _
   | exact lockgatekit_KeptInsns.mono _ _ _
   | exact lockgatekit_KeptInts.mono _ _ _
   | exact lockgatekit_LentInsns.mono _ _
   | exact lockgatekit_LentInts.mono _ _
   | exact lockgatekit_SameInts.mono _ _ _
   | exact lockgatekit_SpoilInts.mono _ _
   | exact lockgatelaw06_right.mono _ _
   | exact lockgatelaw06_same.mono _ _ _
   | exact lockgatelaw06_works.mono _
   | exact lockgateref06_Heads.mono _ _ _
   | exact lockgateref06_Next.mono _ _ _ _
   | exact lockgateref06_Reached.mono _ _ _
   | exact lockgateref06_Targets.mono _ _
   | exact LeO.none _
   | refine LeO.ite ?_ ?_
   | refine LeO.bind ?_ (fun _ => ?_)
theorem lockgatelaw06_FlowTells.mono : ∀ a0 a1 k, LeO (lockgatelaw06_FlowTells.f k a0 a1) (lockgatelaw06_FlowTells.f (k + 1) a0 a1) := by
 intro a0 a1 k
 obtain ⟨ih0, ih1, ih2⟩ := lockgatelaw06_FlowTells.mono_l k
 unfold lockgatelaw06_FlowTells.f
 repeat' first
  | (with_reducible exact ih0 _ _ _ _ _ _ _)
  | (with_reducible exact ih1 _ _ _ _ _ _)
  | (with_reducible exact ih2 _ _ _ _ _)
  | (with_reducible exact flow_Heads.mono _ _ _)
  | (with_reducible exact flow_Next.mono _ _ _ _)
  | (with_reducible exact flow_Reached.mono _ _ _)
  | (with_reducible exact flow_Targets.mono _ _)
  | (with_reducible exact lockgatekit_KeptInsns.mono _ _ _)
  | (with_reducible exact lockgatekit_KeptInts.mono _ _ _)
  | (with_reducible exact lockgatekit_LentInsns.mono _ _)
  | (with_reducible exact lockgatekit_LentInts.mono _ _)
  | (with_reducible exact lockgatekit_SameInts.mono _ _ _)
  | (with_reducible exact lockgatekit_SpoilInts.mono _ _)
  | (with_reducible exact lockgatelaw06_right.mono _ _)
  | (with_reducible exact lockgatelaw06_same.mono _ _ _)
  | (with_reducible exact lockgatelaw06_works.mono _)
  | (with_reducible exact lockgateref06_Heads.mono _ _ _)
  | (with_reducible exact lockgateref06_Next.mono _ _ _ _)
  | (with_reducible exact lockgateref06_Reached.mono _ _ _)
  | (with_reducible exact lockgateref06_Targets.mono _ _)
  | (with_reducible exact LeO.refl _)
  | (with_reducible exact LeO.none _)
  | (with_reducible refine LeO.ite ?_ ?_)
  | (with_reducible refine LeO.bind ?_ (fun _ => ?_))
  | exact ih0 _ _ _ _ _ _ _
  | exact ih1 _ _ _ _ _ _
  | exact ih2 _ _ _ _ _
  | exact flow_Heads.mono _ _ _
  | exact flow_Next.mono _ _ _ _
  | exact flow_Reached.mono _ _ _
  | exact flow_Targets.mono _ _
  | exact lockgatekit_KeptInsns.mono _ _ _
  | exact lockgatekit_KeptInts.mono _ _ _
  | exact lockgatekit_LentInsns.mono _ _
  | exact lockgatekit_LentInts.mono _ _
  | exact lockgatekit_SameInts.mono _ _ _
  | exact lockgatekit_SpoilInts.mono _ _
  | exact lockgatelaw06_right.mono _ _
  | exact lockgatelaw06_same.mono _ _ _
  | exact lockgatelaw06_works.mono _
  | exact lockgateref06_Heads.mono _ _ _
  | exact lockgateref06_Next.mono _ _ _ _
  | exact lockgateref06_Reached.mono _ _ _
  | exact lockgateref06_Targets.mono _ _
  | exact LeO.none _
  | refine LeO.ite ?_ ?_
  | refine LeO.bind ?_ (fun _ => ?_)
def lockgatelaw06_FlowTells.T11 : Bool × List (List Nat × List Nat) := (true, [([], []), ([], []), ([1], [1]), ([0, 2], [0, 2]), ([], []), ([], []), ([5], [5]), ([4, 6], [4, 6]), ([], []), ([3, 7, 8], [3, 7, 8]), ([9, 9, 0, 1, 2, 3, 4, 5, 6, 7, 8, 9], [9])])
def lockgatelaw06_FlowTells.B11 : List Nat := [0, 0, 2, 7, 0, 0, 32, 112, 0, 511, 1023]
theorem lockgatelaw06_FlowTells.tab11 : rtab .any (opsOf Try.f3 11) = lockgatelaw06_FlowTells.T11 := by kernel_rfl
theorem lockgatelaw06_FlowTells.bits11 : waitsOk lockgatelaw06_FlowTells.T11.2 lockgatelaw06_FlowTells.B11 = true := by kernel_rfl
def lockgatelaw06_FlowTells.T12 : Bool × List (List Nat × List Nat) := (true, [([], []), ([], []), ([1], [1]), ([0, 2], [0, 2]), ([], []), ([], []), ([5], [5]), ([4, 6], [4, 6]), ([3, 7], [3, 7]), ([8, 8, 0, 1, 2, 3, 4, 5, 6, 7, 8], [8])])
def lockgatelaw06_FlowTells.B12 : List Nat := [0, 0, 2, 7, 0, 0, 32, 112, 255, 511]
theorem lockgatelaw06_FlowTells.tab12 : rtab .any (opsOf Try.f3 12) = lockgatelaw06_FlowTells.T12 := by kernel_rfl
theorem lockgatelaw06_FlowTells.bits12 : waitsOk lockgatelaw06_FlowTells.T12.2 lockgatelaw06_FlowTells.B12 = true := by kernel_rfl
def lockgatelaw06_FlowTells.T13 : Bool × List (List Nat × List Nat) := (true, [([], []), ([], []), ([1], [1]), ([0, 2], [0, 2]), ([], []), ([], []), ([5], [5]), ([4, 6], [4, 6]), ([3, 7], [3, 7]), ([8, 8, 0, 1, 2, 3, 4, 5, 6, 7, 8], [8])])
def lockgatelaw06_FlowTells.B13 : List Nat := [0, 0, 2, 7, 0, 0, 32, 112, 255, 511]
theorem lockgatelaw06_FlowTells.tab13 : rtab .any (opsOf Try.f3 13) = lockgatelaw06_FlowTells.T13 := by kernel_rfl
theorem lockgatelaw06_FlowTells.bits13 : waitsOk lockgatelaw06_FlowTells.T13.2 lockgatelaw06_FlowTells.B13 = true := by kernel_rfl
set_option maxHeartbeats 8000000 in
set_option maxRecDepth 100000 in
theorem lockgatelaw06_FlowTells.calls (k : Nat) (A0 : Option Addr) (c0 : Nat) (l0 : List (S42)) (a1 : Int) (r : Bool) (w : World) (hr0 : Kd.C k42 w A0 l0.length l0) (hc0 : l0.length ≤ c0) (HRT : Aside0 (r = true)) (h : lockgatelaw06_FlowTells.f k l0 a1 = some r) :
 Calls Try.prog 3 #[.slice A0 l0.length c0, .int .i64 a1] w fun e w' => e = .returned (.bool r) ∧ Below w.heap.size w w' := by
 have HR0 := Aside0.mk hr0
 have HC0 := Aside0.mk hc0
 clear hr0 hc0
 have HB := Aside0.mk (Below.refl w.heap.size w)
 have H : ((lockgatelaw06_right.f k l0).bind fun t342 => (if t342 = true then ((lockgatekit_LentInsns.f k l0).bind fun t344 => (if 0 ≤ (l0.length : Int) then (if (l0.length : Int) ≤ (t344.length : Int) then ((flow_Targets.f k (t344.take ((l0.length : Int) : Int).toNat)).bind fun bt351 => ((lockgateref06_Targets.f k l0).bind fun bt355 => (if bt351.2 = bt355.2 then ((lockgatekit_SameInts.f k bt351.1 bt355.1).bind fun t359 => (lockgatelaw06_FlowTells.j0 k l0 a1 t344 bt351.1 bt351.2 bt355.1 (!t359))) else (lockgatelaw06_FlowTells.j0 k l0 a1 t344 bt351.1 bt351.2 bt355.1 true)))) else (none)) else (none))) else ((lockgatelaw06_works.f k).bind fun t343 => (some t343)))) = some r := h
 clear h
 replace H := Option.bind_eq_some_iff.mp H
 obtain ⟨t342, A30, H⟩ := H
 replace H : (if t342 = true then ((lockgatekit_LentInsns.f k l0).bind fun t344 => (if 0 ≤ (l0.length : Int) then (if (l0.length : Int) ≤ (t344.length : Int) then ((flow_Targets.f k (t344.take ((l0.length : Int) : Int).toNat)).bind fun bt351 => ((lockgateref06_Targets.f k l0).bind fun bt355 => (if bt351.2 = bt355.2 then ((lockgatekit_SameInts.f k bt351.1 bt355.1).bind fun t359 => (lockgatelaw06_FlowTells.j0 k l0 a1 t344 bt351.1 bt351.2 bt355.1 (!t359))) else (lockgatelaw06_FlowTells.j0 k l0 a1 t344 bt351.1 bt351.2 bt355.1 true)))) else (none)) else (none))) else ((lockgatelaw06_works.f k).bind fun t343 => (some t343))) = some r := H
 have A3 := Aside0.mk A30
 clear A30
 by_cases c4 : t342 = true
 ·subst c4
  have H1 : ((lockgatekit_LentInsns.f k l0).bind fun t344 => (if 0 ≤ (l0.length : Int) then (if (l0.length : Int) ≤ (t344.length : Int) then ((flow_Targets.f k (t344.take ((l0.length : Int) : Int).toNat)).bind fun bt351 => ((lockgateref06_Targets.f k l0).bind fun bt355 => (if bt351.2 = bt355.2 then ((lockgatekit_SameInts.f k bt351.1 bt355.1).bind fun t359 => (lockgatelaw06_FlowTells.j0 k l0 a1 t344 bt351.1 bt351.2 bt355.1 (!t359))) else (lockgatelaw06_FlowTells.j0 k l0 a1 t344 bt351.1 bt351.2 bt355.1 true)))) else (none)) else (none))) = some r := by rw [if_pos rfl] at H; exact H
  clear H
  have H := H1
  clear H1
  replace H := Option.bind_eq_some_iff.mp H
  obtain ⟨t344, A50, H⟩ := H
  replace H : (if 0 ≤ (l0.length : Int) then (if (l0.length : Int) ≤ (t344.length : Int) then ((flow_Targets.f k (t344.take ((l0.length : Int) : Int).toNat)).bind fun bt351 => ((lockgateref06_Targets.f k l0).bind fun bt355 => (if bt351.2 = bt355.2 then ((lockgatekit_SameInts.f k bt351.1 bt355.1).bind fun t359 => (lockgatelaw06_FlowTells.j0 k l0 a1 t344 bt351.1 bt351.2 bt355.1 (!t359))) else (lockgatelaw06_FlowTells.j0 k l0 a1 t344 bt351.1 bt351.2 bt355.1 true)))) else (none)) else (none)) = some r := H
  have A5 := Aside0.mk A50
  clear A50
  by_cases c6 : 0 ≤ (l0.length : Int)
  ·rw [if_pos c6] at H
   have c6b0 := eq_true c6
   have c6b1 : decide (0 ≤ (l0.length : Int)) = true := decide_eq_true c6
   clear c6
   by_cases c7 : (l0.length : Int) ≤ (t344.length : Int)
   ·rw [if_pos c7] at H
    have c7b0 := eq_true c7
    have c7b1 : decide ((l0.length : Int) ≤ (t344.length : Int)) = true := decide_eq_true c7
    clear c7
    obtain ⟨y347, hy347⟩ : ∃ y_ : List (S42), y_ = (t344.take ((l0.length : Int) : Int).toNat) := ⟨_, rfl⟩
    replace H : ((flow_Targets.f k y347).bind fun bt351 => ((lockgateref06_Targets.f k l0).bind fun bt355 => (if bt351.2 = bt355.2 then ((lockgatekit_SameInts.f k bt351.1 bt355.1).bind fun t359 => (lockgatelaw06_FlowTells.j0 k l0 a1 t344 bt351.1 bt351.2 bt355.1 (!t359))) else (lockgatelaw06_FlowTells.j0 k l0 a1 t344 bt351.1 bt351.2 bt355.1 true)))) = some r := by first | (rw [hy347]; with_reducible exact H) | (have H2_ := (Option.bind_some _ _).symm.trans H; rw [hy347]; with_reducible exact H2_) | (have H2_ := (Option.bind_some _ _).symm.trans H; with_reducible exact H2_) | with_reducible exact H | (rw [hy347]; exact H) | exact H
    have Ny347 := Aside0.mk hy347
    clear hy347
    replace H := Option.bind_eq_some_iff.mp H
    obtain ⟨⟨t351, t352⟩, A80, H⟩ := H
    replace H : ((lockgateref06_Targets.f k l0).bind fun bt355 => (if t352 = bt355.2 then ((lockgatekit_SameInts.f k t351 bt355.1).bind fun t359 => (lockgatelaw06_FlowTells.j0 k l0 a1 t344 t351 t352 bt355.1 (!t359))) else (lockgatelaw06_FlowTells.j0 k l0 a1 t344 t351 t352 bt355.1 true))) = some r := H
    have A8 := Aside0.mk A80
    clear A80
    replace H := Option.bind_eq_some_iff.mp H
    obtain ⟨⟨t355, t356⟩, A90, H⟩ := H
    replace H : (if t352 = t356 then ((lockgatekit_SameInts.f k t351 t355).bind fun t359 => (lockgatelaw06_FlowTells.j0 k l0 a1 t344 t351 t352 t355 (!t359))) else (lockgatelaw06_FlowTells.j0 k l0 a1 t344 t351 t352 t355 true)) = some r := H
    have A9 := Aside0.mk A90
    clear A90
    have HC10 := Aside0.mk H
    clear H
    go_enter Try.func3, Try.ntmps3
    go_upto_region 6 with (first | ((with_reducible refine gate_callee (f := 8) rfl ?_); refine goesL_ (some 16) rfl rfl Try.func8 (by kernel_rfl) rfl #[.slice A0 l0.length c0] rfl mp_ ?_; (with_reducible refine (lockgatelaw06_right.calls k _ _ l0 true _ ?side1 ?side2 A3.out).mono ?_); (case side1 => repeat (first | exact HR0.out | (with_reducible refine Kd.C_alloc ?_ _) | (with_reducible refine Kd.C_drewN ?_ _) | (with_reducible refine Kd.C_drew ?_))); (case side2 => exact HC0.out); rintro e w' ⟨rfl, ⟨nd, rfl⟩⟩; refine ⟨_, rfl, ?_⟩) | ((with_reducible refine gate_callee (f := 10) rfl ?_); refine goesL_ (some 20) rfl rfl Try.func10 (by kernel_rfl) rfl #[.slice A0 l0.length c0] rfl mp_ ?_; (with_reducible refine (lockgatekit_LentInsns.calls k _ _ l0 t344 _ ?side1 ?side2 A5.out).mono ?_); (case side1 => repeat (first | exact HR0.out | (with_reducible refine Kd.C_alloc ?_ _) | (with_reducible refine Kd.C_drewN ?_ _) | (with_reducible refine Kd.C_drew ?_))); (case side2 => exact HC0.out); rintro e w11 ⟨v345, rfl, ho0, hb⟩; refine ⟨_, rfl, ?_⟩; have HO346 := Aside0.mk (Kd.R_lower ho0 (below_size bz_)); replace HB := bl_ hb; (try clear hb); (try clear hb2); (try clear hk); (try clear hi); (try clear ho0); obtain ⟨Ao13, co13, eo13⟩ := Kd.R_slice HO346.out; subst eo13; have q12 : ((l0.length : Int) : Int) ≤ ((t344.length : Int) : Int) := of_decide_eq_true (by first | (with_reducible assumption) | assumption); obtain ⟨i012, hi012, _, hsz12, _⟩ := info_parts info42; have hroom12 : t344.length ≤ co13 := (Kd.R_reads' HO346.out).2.1; have hC12 : Kd.C k42 _ Ao13 t344.length t344 := (Kd.R_reads' HO346.out).2.2; have hcut12 := cut_to (P := Try.prog) 22 42 .i64 Try.underlying22 hi012 Ao13 t344.length co13 (l0.length : Int) (of_decide_eq_true (by first | (with_reducible assumption) | assumption)) q12 hroom12; have hr12 := Kd.C_take (m := ((l0.length : Int) : Int).toNat) hC12 (by omega); have hy12 : y347.length = ((l0.length : Int) : Int).toNat := (by rw [Ny347.out, List.length_take]; omega); rw [← Ny347.out] at hr12; rw [← hy12] at hcut12; have HR350 := Aside0.mk hr12; have HC350 := Aside0.mk (show y347.length ≤ co13 from by omega); clear hr12 hC12 hroom12 hi012 hsz12; have KY12 := Aside0.mk hy12; clear hy12; have KL12 := Aside0.mk (show ((l0.length : Int) : Int).toNat ≤ t344.length from by omega); replace q12 := eq_true q12) | ((with_reducible refine gate_callee (f := 11) rfl ?_); refine goesL_ (some 26) rfl rfl Try.func11 (by kernel_rfl) rfl #[.slice Ao13 y347.length co13] rfl mp_ ?_; (with_reducible refine (flow_Targets.calls k _ _ y347 t351 t352 _ ?side1 ?side2 A8.out).mono ?_); (case side1 => repeat (first | exact (by repeat (first | (with_reducible exact HR350.out) | (with_reducible refine Kd.C_alloc ?_ _) | (with_reducible refine Kd.C_drewN ?_ _) | (with_reducible refine Kd.C_drew ?_) | exact HR350.out)) | (with_reducible refine Kd.C_alloc ?_ _) | (with_reducible refine Kd.C_drewN ?_ _) | (with_reducible refine Kd.C_drew ?_))); (case side2 => exact HC350.out); rintro e w14 ⟨v353, rfl, ho0, hb⟩; refine ⟨_, rfl, ?_⟩; have HO354 := Aside0.mk (Kd.R_lower ho0 (below_size bz_)); replace HO346 := Aside0.mk (Kd.R_below (by (with_reducible repeat (first | apply Kd.R_alloc | apply Kd.R_drewN | apply Kd.R_drew)); exact HO346.out) hb); replace HR350 := Aside0.mk (Kd.C_below (by repeat (first | (with_reducible exact HR350.out) | (with_reducible refine Kd.C_alloc ?_ _) | (with_reducible refine Kd.C_drewN ?_ _) | (with_reducible refine Kd.C_drew ?_) | exact HR350.out)) hb); replace HB := bl_ hb; (try clear hb); (try clear hb2); (try clear hk); (try clear hi); (try clear ho0)) | ((with_reducible refine gate_callee (f := 12) rfl ?_); refine goesL_ (some 31) rfl rfl Try.func12 (by kernel_rfl) rfl #[.slice A0 l0.length c0] rfl mp_ ?_; (with_reducible refine (lockgateref06_Targets.calls k _ _ l0 t355 t356 _ ?side1 ?side2 A9.out).mono ?_); (case side1 => repeat (first | exact (Kd.C_below HR0.out HB.out) | (with_reducible refine Kd.C_alloc ?_ _) | (with_reducible refine Kd.C_drewN ?_ _) | (with_reducible refine Kd.C_drew ?_))); (case side2 => exact HC0.out); rintro e w15 ⟨v357, rfl, ho0, hb⟩; refine ⟨_, rfl, ?_⟩; have n0_ := Aside0.mk (Kd.R_below (by (with_reducible repeat (first | apply Kd.R_alloc | apply Kd.R_drewN | apply Kd.R_drew)); exact HO346.out) hb); have n1_ := Aside0.mk (Kd.R_elder' (by (with_reducible repeat (first | apply Kd.R_alloc | apply Kd.R_drewN | apply Kd.R_drew)); exact HO354.out) (Kd.R_base ho0) hb); have n2_ := Aside0.mk (Kd.R_lower (Kd.R_new' ho0 (Kd.R_lt (by (with_reducible repeat (first | apply Kd.R_alloc | apply Kd.R_drewN | apply Kd.R_drew)); exact HO354.out))) (below_size bz_)); have n3_ := Aside0.mk (Kd.C_below (by repeat (first | (with_reducible exact HR350.out) | (with_reducible refine Kd.C_alloc ?_ _) | (with_reducible refine Kd.C_drewN ?_ _) | (with_reducible refine Kd.C_drew ?_) | exact HR350.out)) hb); have n4_ := bl_ hb; clear HO346; clear HO354; clear HR350; clear HB; have HO346 := n0_; have HO354 := n1_; have HO358 := n2_; have HR350 := n3_; have HB := n4_; clear n0_ n1_ n2_ n3_ n4_; (try clear hb); (try clear hb2); (try clear hk); (try clear hi); (try clear ho0)))
    (try simp only [Act.put, s1_, s2_, s3_])
    go_cut [42] (fun v42 wc => ∃ (kq : Nat) (x42_9 : Bool), v42 = .bool x42_9 ∧ Aside0 (lockgatelaw06_FlowTells.j0 kq l0 a1 t344 t351 t352 t355 x42_9 = some r) ∧ Aside0 (kq ≤ k) ∧ Aside0 (Kd.R k42 42 wc w.heap.size (fun _ => True) (.slice Ao13 t344.length co13) t344) ∧ Aside0 (Kd.R (Kd.int .i64) 3 wc w.heap.size (fun k_ => some k_ ≠ (v357 : Value).ownBlock) v353 t351) ∧ Aside0 (Kd.R (Kd.int .i64) 3 wc w.heap.size (fun k_ => some k_ ≠ (v353 : Value).ownBlock) v357 t355) ∧ Aside0 (Kd.C k42 wc Ao13 y347.length y347) ∧ Aside0 (Below w.heap.size w wc))
    case first =>
     have H := HC10.out
     clear HC10
     by_cases c16 : t352 = t356
     ·rw [if_pos c16] at H
      have c16b0 : (t352 == t356) = true := beq_iff_eq.mpr c16
      have c16b1 : (t352 != t356) = false := bne_eq_false_iff_eq.mpr c16
      clear c16
      (first | rw [c16b0] | (simp only [i64_w, i32_w]; rw [c16b0]) | skip)
      replace H := Option.bind_eq_some_iff.mp H
      obtain ⟨t359, A170, H⟩ := H
      replace H : (lockgatelaw06_FlowTells.j0 k l0 a1 t344 t351 t352 t355 (!t359)) = some r := H
      have A17 := Aside0.mk A170
      clear A170
      have H' := Aside0.mk H
      clear H
      obtain ⟨Ao18, co18, eo18⟩ := Kd.R_slice HO354.out
      subst eo18
      obtain ⟨Ao19, co19, eo19⟩ := Kd.R_slice HO358.out
      subst eo19
      go_wp2_with (first | (go_at_call 13; (with_reducible refine (lockgatekit_SameInts.calls k _ _ t351 _ _ t355 t359 _ ?side1 ?side2 ?side3 ?side4 A17.out).mono ?_); (case side1 => repeat (first | exact (Kd.R_reads' HO354.out).2.2 | (with_reducible refine Kd.C_alloc ?_ _) | (with_reducible refine Kd.C_drewN ?_ _) | (with_reducible refine Kd.C_drew ?_))); (case side2 => exact (Kd.R_reads' HO354.out).2.1); (case side3 => repeat (first | exact (Kd.R_reads' HO358.out).2.2 | (with_reducible refine Kd.C_alloc ?_ _) | (with_reducible refine Kd.C_drewN ?_ _) | (with_reducible refine Kd.C_drew ?_))); (case side4 => exact (Kd.R_reads' HO358.out).2.1); rintro e w' ⟨rfl, ⟨nd, rfl⟩⟩))
      go_meet
      case rel => exact ⟨_, (!t359), (by first | rfl | (simp; done) | (simp [*]; done)), H', ⟨by first | omega | exact Nat.le_refl _⟩, ⟨by (with_reducible repeat (first | apply Kd.R_alloc | apply Kd.R_drewN | apply Kd.R_drew)); exact HO346.out⟩, ⟨by (with_reducible repeat (first | apply Kd.R_alloc | apply Kd.R_drewN | apply Kd.R_drew)); exact Kd.R_mono HO354.out (fun _ hk => hk.2)⟩, ⟨by (with_reducible repeat (first | apply Kd.R_alloc | apply Kd.R_drewN | apply Kd.R_drew)); exact Kd.R_mono HO358.out (fun _ hk => hk.2)⟩, ⟨by repeat (first | (with_reducible exact HR350.out) | (with_reducible refine Kd.C_alloc ?_ _) | (with_reducible refine Kd.C_drewN ?_ _) | (with_reducible refine Kd.C_drew ?_) | exact HR350.out)⟩, ⟨bz_⟩⟩
     ·rw [if_neg c16] at H
      have c16b0 : (t352 == t356) = false := beq_eq_false_iff_ne.mpr c16
      have c16b1 : (t352 != t356) = true := bne_iff_ne.mpr c16
      (first | rw [c16b0] | (simp only [i64_w, i32_w]; rw [c16b0]) | skip)
      exfalso
      cases k with
      | zero => rw [lockgatelaw06_FlowTells.j0] at H; exact nomatch H
      | succ q_ => rw [lockgatelaw06_FlowTells.j0, if_pos rfl] at H; exact absurd ((Option.some.inj H).trans HRT.out) (by decide)
    case rest =>
     clear HC10
     try clear c1
     try clear q1
     try clear p2
     try clear c3
     try clear c4
     try clear c6
     try clear c6b0
     try clear c6b1
     try clear c7
     try clear c7b0
     try clear c7b1
     try clear c8
     try clear c10
     try clear c11
     try clear c12
     try clear q12
     try clear c16
     try clear c16b0
     try clear c16b1
     try clear q12
     obtain ⟨kq, x42_9, rfl, HA, HJ9, HO_5, HO_6, HO_8, HR350, HB⟩ := hcut
     cases kq with
     | zero => exact absurd HA.out (by simp [lockgatelaw06_FlowTells.j0])
     | succ kj9 =>
      have H := HA.out
      clear HA
      simp only [lockgatelaw06_FlowTells.j0] at H
      by_cases c20 : x42_9 = true
      ·subst c20
       have H1 : (some false) = some r := by rw [if_pos rfl] at H; exact H
       clear H
       have H := H1
       clear H1
       exact absurd ((Option.some.inj H).trans HRT.out) (by decide)
      ·replace c20 := Bool.eq_false_iff.mpr c20
       subst c20
       have H1 : (if t352 = 0 then ((lockgatekit_LentInts.f kj9 t355).bind fun t361 => (if 0 ≤ (l0.length : Int) then (if (l0.length : Int) ≤ (t344.length : Int) then (if 0 ≤ (t355.length : Int) then (if (t355.length : Int) ≤ (t361.length : Int) then ((flow_Next.f kj9 (t344.take ((l0.length : Int) : Int).toNat) (t361.take ((t355.length : Int) : Int).toNat) a1).bind fun t372 => ((flow_Heads.f kj9 (t344.take ((l0.length : Int) : Int).toNat) (t361.take ((t355.length : Int) : Int).toNat)).bind fun t383 => ((flow_Reached.f kj9 (t344.take ((l0.length : Int) : Int).toNat) (t361.take ((t355.length : Int) : Int).toNat)).bind fun t394 => ((lockgatekit_SpoilInts.f kj9 t351).bind fun t397 => ((lockgateref06_Next.f kj9 l0 t355 a1).bind fun t398 => ((lockgatekit_SameInts.f kj9 t372 t398).bind fun t401 => (if t401 = true then ((lockgateref06_Heads.f kj9 l0 t355).bind fun t402 => ((lockgatelaw06_same.f kj9 t383 t402).bind fun t405 => (if t405 = true then ((lockgateref06_Reached.f kj9 l0 t355).bind fun t406 => ((lockgatelaw06_same.f kj9 t394 t406).bind fun t409 => (lockgatelaw06_FlowTells.j1 kj9 l0 t344 t355 t361 t372 (!t409)))) else (lockgatelaw06_FlowTells.j1 kj9 l0 t344 t355 t361 t372 true)))) else (lockgatelaw06_FlowTells.j1 kj9 l0 t344 t355 t361 t372 true)))))))) else (none)) else (none)) else (none)) else (none))) else ((lockgatelaw06_works.f kj9).bind fun t360 => (some t360))) = some r := by rw [if_neg (show ¬ (false = true) by decide)] at H; exact H
       clear H
       have H := H1
       clear H1
       by_cases c21 : t352 = 0
       ·rw [if_pos c21] at H
        have c21b0 : (t352 == 0) = true := beq_iff_eq.mpr c21
        have c21b1 : (t352 != 0) = false := bne_eq_false_iff_eq.mpr c21
        clear c21
        replace H := Option.bind_eq_some_iff.mp H
        obtain ⟨t361, A220, H⟩ := H
        replace H : (if 0 ≤ (l0.length : Int) then (if (l0.length : Int) ≤ (t344.length : Int) then (if 0 ≤ (t355.length : Int) then (if (t355.length : Int) ≤ (t361.length : Int) then ((flow_Next.f kj9 (t344.take ((l0.length : Int) : Int).toNat) (t361.take ((t355.length : Int) : Int).toNat) a1).bind fun t372 => ((flow_Heads.f kj9 (t344.take ((l0.length : Int) : Int).toNat) (t361.take ((t355.length : Int) : Int).toNat)).bind fun t383 => ((flow_Reached.f kj9 (t344.take ((l0.length : Int) : Int).toNat) (t361.take ((t355.length : Int) : Int).toNat)).bind fun t394 => ((lockgatekit_SpoilInts.f kj9 t351).bind fun t397 => ((lockgateref06_Next.f kj9 l0 t355 a1).bind fun t398 => ((lockgatekit_SameInts.f kj9 t372 t398).bind fun t401 => (if t401 = true then ((lockgateref06_Heads.f kj9 l0 t355).bind fun t402 => ((lockgatelaw06_same.f kj9 t383 t402).bind fun t405 => (if t405 = true then ((lockgateref06_Reached.f kj9 l0 t355).bind fun t406 => ((lockgatelaw06_same.f kj9 t394 t406).bind fun t409 => (lockgatelaw06_FlowTells.j1 kj9 l0 t344 t355 t361 t372 (!t409)))) else (lockgatelaw06_FlowTells.j1 kj9 l0 t344 t355 t361 t372 true)))) else (lockgatelaw06_FlowTells.j1 kj9 l0 t344 t355 t361 t372 true)))))))) else (none)) else (none)) else (none)) else (none)) = some r := H
        have A22 := Aside0.mk A220
        clear A220
        by_cases c23 : 0 ≤ (l0.length : Int)
        ·rw [if_pos c23] at H
         have c23b0 := eq_true c23
         have c23b1 : decide (0 ≤ (l0.length : Int)) = true := decide_eq_true c23
         clear c23
         by_cases c24 : (l0.length : Int) ≤ (t344.length : Int)
         ·rw [if_pos c24] at H
          have c24b0 := eq_true c24
          have c24b1 : decide ((l0.length : Int) ≤ (t344.length : Int)) = true := decide_eq_true c24
          clear c24
          obtain ⟨y364, hy364⟩ : ∃ y_ : List (S42), y_ = (t344.take ((l0.length : Int) : Int).toNat) := ⟨_, rfl⟩
          replace H : (if 0 ≤ (t355.length : Int) then (if (t355.length : Int) ≤ (t361.length : Int) then ((flow_Next.f kj9 y364 (t361.take ((t355.length : Int) : Int).toNat) a1).bind fun t372 => ((flow_Heads.f kj9 (t344.take ((l0.length : Int) : Int).toNat) (t361.take ((t355.length : Int) : Int).toNat)).bind fun t383 => ((flow_Reached.f kj9 (t344.take ((l0.length : Int) : Int).toNat) (t361.take ((t355.length : Int) : Int).toNat)).bind fun t394 => ((lockgatekit_SpoilInts.f kj9 t351).bind fun t397 => ((lockgateref06_Next.f kj9 l0 t355 a1).bind fun t398 => ((lockgatekit_SameInts.f kj9 t372 t398).bind fun t401 => (if t401 = true then ((lockgateref06_Heads.f kj9 l0 t355).bind fun t402 => ((lockgatelaw06_same.f kj9 t383 t402).bind fun t405 => (if t405 = true then ((lockgateref06_Reached.f kj9 l0 t355).bind fun t406 => ((lockgatelaw06_same.f kj9 t394 t406).bind fun t409 => (lockgatelaw06_FlowTells.j1 kj9 l0 t344 t355 t361 t372 (!t409)))) else (lockgatelaw06_FlowTells.j1 kj9 l0 t344 t355 t361 t372 true)))) else (lockgatelaw06_FlowTells.j1 kj9 l0 t344 t355 t361 t372 true)))))))) else (none)) else (none)) = some r := by first | (rw [hy364]; with_reducible exact H) | (have H2_ := (Option.bind_some _ _).symm.trans H; rw [hy364]; with_reducible exact H2_) | (have H2_ := (Option.bind_some _ _).symm.trans H; with_reducible exact H2_) | with_reducible exact H | (rw [hy364]; exact H) | exact H
          have Ny364 := Aside0.mk hy364
          clear hy364
          by_cases c25 : 0 ≤ (t355.length : Int)
          ·rw [if_pos c25] at H
           have c25b0 := eq_true c25
           have c25b1 : decide (0 ≤ (t355.length : Int)) = true := decide_eq_true c25
           clear c25
           by_cases c26 : (t355.length : Int) ≤ (t361.length : Int)
           ·rw [if_pos c26] at H
            have c26b0 := eq_true c26
            have c26b1 : decide ((t355.length : Int) ≤ (t361.length : Int)) = true := decide_eq_true c26
            clear c26
            obtain ⟨y368, hy368⟩ : ∃ y_ : List Int, y_ = (t361.take ((t355.length : Int) : Int).toNat) := ⟨_, rfl⟩
            replace H : ((flow_Next.f kj9 y364 y368 a1).bind fun t372 => ((flow_Heads.f kj9 (t344.take ((l0.length : Int) : Int).toNat) (t361.take ((t355.length : Int) : Int).toNat)).bind fun t383 => ((flow_Reached.f kj9 (t344.take ((l0.length : Int) : Int).toNat) (t361.take ((t355.length : Int) : Int).toNat)).bind fun t394 => ((lockgatekit_SpoilInts.f kj9 t351).bind fun t397 => ((lockgateref06_Next.f kj9 l0 t355 a1).bind fun t398 => ((lockgatekit_SameInts.f kj9 t372 t398).bind fun t401 => (if t401 = true then ((lockgateref06_Heads.f kj9 l0 t355).bind fun t402 => ((lockgatelaw06_same.f kj9 t383 t402).bind fun t405 => (if t405 = true then ((lockgateref06_Reached.f kj9 l0 t355).bind fun t406 => ((lockgatelaw06_same.f kj9 t394 t406).bind fun t409 => (lockgatelaw06_FlowTells.j1 kj9 l0 t344 t355 t361 t372 (!t409)))) else (lockgatelaw06_FlowTells.j1 kj9 l0 t344 t355 t361 t372 true)))) else (lockgatelaw06_FlowTells.j1 kj9 l0 t344 t355 t361 t372 true)))))))) = some r := by first | (rw [hy368]; with_reducible exact H) | (have H2_ := (Option.bind_some _ _).symm.trans H; rw [hy368]; with_reducible exact H2_) | (have H2_ := (Option.bind_some _ _).symm.trans H; with_reducible exact H2_) | with_reducible exact H | (rw [hy368]; exact H) | exact H
            have Ny368 := Aside0.mk hy368
            clear hy368
            replace H := Option.bind_eq_some_iff.mp H
            obtain ⟨t372, A270, H⟩ := H
            replace H : ((flow_Heads.f kj9 (t344.take ((l0.length : Int) : Int).toNat) (t361.take ((t355.length : Int) : Int).toNat)).bind fun t383 => ((flow_Reached.f kj9 (t344.take ((l0.length : Int) : Int).toNat) (t361.take ((t355.length : Int) : Int).toNat)).bind fun t394 => ((lockgatekit_SpoilInts.f kj9 t351).bind fun t397 => ((lockgateref06_Next.f kj9 l0 t355 a1).bind fun t398 => ((lockgatekit_SameInts.f kj9 t372 t398).bind fun t401 => (if t401 = true then ((lockgateref06_Heads.f kj9 l0 t355).bind fun t402 => ((lockgatelaw06_same.f kj9 t383 t402).bind fun t405 => (if t405 = true then ((lockgateref06_Reached.f kj9 l0 t355).bind fun t406 => ((lockgatelaw06_same.f kj9 t394 t406).bind fun t409 => (lockgatelaw06_FlowTells.j1 kj9 l0 t344 t355 t361 t372 (!t409)))) else (lockgatelaw06_FlowTells.j1 kj9 l0 t344 t355 t361 t372 true)))) else (lockgatelaw06_FlowTells.j1 kj9 l0 t344 t355 t361 t372 true))))))) = some r := H
            have A27 := Aside0.mk A270
            clear A270
            have c28b0 := eq_true (of_decide_eq_true (by first | (with_reducible assumption) | assumption) : 0 ≤ (l0.length : Int))
            have c29b0 := eq_true (of_decide_eq_true (by first | (with_reducible assumption) | assumption) : (l0.length : Int) ≤ (t344.length : Int))
            obtain ⟨y375, hy375⟩ : ∃ y_ : List (S42), y_ = (t344.take ((l0.length : Int) : Int).toNat) := ⟨_, rfl⟩
            replace H : ((flow_Heads.f kj9 y375 (t361.take ((t355.length : Int) : Int).toNat)).bind fun t383 => ((flow_Reached.f kj9 (t344.take ((l0.length : Int) : Int).toNat) (t361.take ((t355.length : Int) : Int).toNat)).bind fun t394 => ((lockgatekit_SpoilInts.f kj9 t351).bind fun t397 => ((lockgateref06_Next.f kj9 l0 t355 a1).bind fun t398 => ((lockgatekit_SameInts.f kj9 t372 t398).bind fun t401 => (if t401 = true then ((lockgateref06_Heads.f kj9 l0 t355).bind fun t402 => ((lockgatelaw06_same.f kj9 t383 t402).bind fun t405 => (if t405 = true then ((lockgateref06_Reached.f kj9 l0 t355).bind fun t406 => ((lockgatelaw06_same.f kj9 t394 t406).bind fun t409 => (lockgatelaw06_FlowTells.j1 kj9 l0 t344 t355 t361 t372 (!t409)))) else (lockgatelaw06_FlowTells.j1 kj9 l0 t344 t355 t361 t372 true)))) else (lockgatelaw06_FlowTells.j1 kj9 l0 t344 t355 t361 t372 true))))))) = some r := by first | (rw [hy375]; with_reducible exact H) | (have H2_ := (Option.bind_some _ _).symm.trans H; rw [hy375]; with_reducible exact H2_) | (have H2_ := (Option.bind_some _ _).symm.trans H; with_reducible exact H2_) | with_reducible exact H | (rw [hy375]; exact H) | exact H
            have Ny375 := Aside0.mk hy375
            clear hy375
            have c30b0 := eq_true (of_decide_eq_true (by first | (with_reducible assumption) | assumption) : 0 ≤ (t355.length : Int))
            have c31b0 := eq_true (of_decide_eq_true (by first | (with_reducible assumption) | assumption) : (t355.length : Int) ≤ (t361.length : Int))
            obtain ⟨y379, hy379⟩ : ∃ y_ : List Int, y_ = (t361.take ((t355.length : Int) : Int).toNat) := ⟨_, rfl⟩
            replace H : ((flow_Heads.f kj9 y375 y379).bind fun t383 => ((flow_Reached.f kj9 (t344.take ((l0.length : Int) : Int).toNat) (t361.take ((t355.length : Int) : Int).toNat)).bind fun t394 => ((lockgatekit_SpoilInts.f kj9 t351).bind fun t397 => ((lockgateref06_Next.f kj9 l0 t355 a1).bind fun t398 => ((lockgatekit_SameInts.f kj9 t372 t398).bind fun t401 => (if t401 = true then ((lockgateref06_Heads.f kj9 l0 t355).bind fun t402 => ((lockgatelaw06_same.f kj9 t383 t402).bind fun t405 => (if t405 = true then ((lockgateref06_Reached.f kj9 l0 t355).bind fun t406 => ((lockgatelaw06_same.f kj9 t394 t406).bind fun t409 => (lockgatelaw06_FlowTells.j1 kj9 l0 t344 t355 t361 t372 (!t409)))) else (lockgatelaw06_FlowTells.j1 kj9 l0 t344 t355 t361 t372 true)))) else (lockgatelaw06_FlowTells.j1 kj9 l0 t344 t355 t361 t372 true))))))) = some r := by first | (rw [hy379]; with_reducible exact H) | (have H2_ := (Option.bind_some _ _).symm.trans H; rw [hy379]; with_reducible exact H2_) | (have H2_ := (Option.bind_some _ _).symm.trans H; with_reducible exact H2_) | with_reducible exact H | (rw [hy379]; exact H) | exact H
            have Ny379 := Aside0.mk hy379
            clear hy379
            replace H := Option.bind_eq_some_iff.mp H
            obtain ⟨t383, A320, H⟩ := H
            replace H : ((flow_Reached.f kj9 (t344.take ((l0.length : Int) : Int).toNat) (t361.take ((t355.length : Int) : Int).toNat)).bind fun t394 => ((lockgatekit_SpoilInts.f kj9 t351).bind fun t397 => ((lockgateref06_Next.f kj9 l0 t355 a1).bind fun t398 => ((lockgatekit_SameInts.f kj9 t372 t398).bind fun t401 => (if t401 = true then ((lockgateref06_Heads.f kj9 l0 t355).bind fun t402 => ((lockgatelaw06_same.f kj9 t383 t402).bind fun t405 => (if t405 = true then ((lockgateref06_Reached.f kj9 l0 t355).bind fun t406 => ((lockgatelaw06_same.f kj9 t394 t406).bind fun t409 => (lockgatelaw06_FlowTells.j1 kj9 l0 t344 t355 t361 t372 (!t409)))) else (lockgatelaw06_FlowTells.j1 kj9 l0 t344 t355 t361 t372 true)))) else (lockgatelaw06_FlowTells.j1 kj9 l0 t344 t355 t361 t372 true)))))) = some r := H
            have A32 := Aside0.mk A320
            clear A320
            have c33b0 := eq_true (of_decide_eq_true (by first | (with_reducible assumption) | assumption) : 0 ≤ (l0.length : Int))
            have c34b0 := eq_true (of_decide_eq_true (by first | (with_reducible assumption) | assumption) : (l0.length : Int) ≤ (t344.length : Int))
            obtain ⟨y386, hy386⟩ : ∃ y_ : List (S42), y_ = (t344.take ((l0.length : Int) : Int).toNat) := ⟨_, rfl⟩
            replace H : ((flow_Reached.f kj9 y386 (t361.take ((t355.length : Int) : Int).toNat)).bind fun t394 => ((lockgatekit_SpoilInts.f kj9 t351).bind fun t397 => ((lockgateref06_Next.f kj9 l0 t355 a1).bind fun t398 => ((lockgatekit_SameInts.f kj9 t372 t398).bind fun t401 => (if t401 = true then ((lockgateref06_Heads.f kj9 l0 t355).bind fun t402 => ((lockgatelaw06_same.f kj9 t383 t402).bind fun t405 => (if t405 = true then ((lockgateref06_Reached.f kj9 l0 t355).bind fun t406 => ((lockgatelaw06_same.f kj9 t394 t406).bind fun t409 => (lockgatelaw06_FlowTells.j1 kj9 l0 t344 t355 t361 t372 (!t409)))) else (lockgatelaw06_FlowTells.j1 kj9 l0 t344 t355 t361 t372 true)))) else (lockgatelaw06_FlowTells.j1 kj9 l0 t344 t355 t361 t372 true)))))) = some r := by first | (rw [hy386]; with_reducible exact H) | (have H2_ := (Option.bind_some _ _).symm.trans H; rw [hy386]; with_reducible exact H2_) | (have H2_ := (Option.bind_some _ _).symm.trans H; with_reducible exact H2_) | with_reducible exact H | (rw [hy386]; exact H) | exact H
            have Ny386 := Aside0.mk hy386
            clear hy386
            have c35b0 := eq_true (of_decide_eq_true (by first | (with_reducible assumption) | assumption) : 0 ≤ (t355.length : Int))
            have c36b0 := eq_true (of_decide_eq_true (by first | (with_reducible assumption) | assumption) : (t355.length : Int) ≤ (t361.length : Int))
            obtain ⟨y390, hy390⟩ : ∃ y_ : List Int, y_ = (t361.take ((t355.length : Int) : Int).toNat) := ⟨_, rfl⟩
            replace H : ((flow_Reached.f kj9 y386 y390).bind fun t394 => ((lockgatekit_SpoilInts.f kj9 t351).bind fun t397 => ((lockgateref06_Next.f kj9 l0 t355 a1).bind fun t398 => ((lockgatekit_SameInts.f kj9 t372 t398).bind fun t401 => (if t401 = true then ((lockgateref06_Heads.f kj9 l0 t355).bind fun t402 => ((lockgatelaw06_same.f kj9 t383 t402).bind fun t405 => (if t405 = true then ((lockgateref06_Reached.f kj9 l0 t355).bind fun t406 => ((lockgatelaw06_same.f kj9 t394 t406).bind fun t409 => (lockgatelaw06_FlowTells.j1 kj9 l0 t344 t355 t361 t372 (!t409)))) else (lockgatelaw06_FlowTells.j1 kj9 l0 t344 t355 t361 t372 true)))) else (lockgatelaw06_FlowTells.j1 kj9 l0 t344 t355 t361 t372 true)))))) = some r := by first | (rw [hy390]; with_reducible exact H) | (have H2_ := (Option.bind_some _ _).symm.trans H; rw [hy390]; with_reducible exact H2_) | (have H2_ := (Option.bind_some _ _).symm.trans H; with_reducible exact H2_) | with_reducible exact H | (rw [hy390]; exact H) | exact H
            have Ny390 := Aside0.mk hy390
            clear hy390
            replace H := Option.bind_eq_some_iff.mp H
            obtain ⟨t394, A370, H⟩ := H
            replace H : ((lockgatekit_SpoilInts.f kj9 t351).bind fun t397 => ((lockgateref06_Next.f kj9 l0 t355 a1).bind fun t398 => ((lockgatekit_SameInts.f kj9 t372 t398).bind fun t401 => (if t401 = true then ((lockgateref06_Heads.f kj9 l0 t355).bind fun t402 => ((lockgatelaw06_same.f kj9 t383 t402).bind fun t405 => (if t405 = true then ((lockgateref06_Reached.f kj9 l0 t355).bind fun t406 => ((lockgatelaw06_same.f kj9 t394 t406).bind fun t409 => (lockgatelaw06_FlowTells.j1 kj9 l0 t344 t355 t361 t372 (!t409)))) else (lockgatelaw06_FlowTells.j1 kj9 l0 t344 t355 t361 t372 true)))) else (lockgatelaw06_FlowTells.j1 kj9 l0 t344 t355 t361 t372 true))))) = some r := H
            have A37 := Aside0.mk A370
            clear A370
            replace H := Option.bind_eq_some_iff.mp H
            obtain ⟨t397, A380, H⟩ := H
            replace H : ((lockgateref06_Next.f kj9 l0 t355 a1).bind fun t398 => ((lockgatekit_SameInts.f kj9 t372 t398).bind fun t401 => (if t401 = true then ((lockgateref06_Heads.f kj9 l0 t355).bind fun t402 => ((lockgatelaw06_same.f kj9 t383 t402).bind fun t405 => (if t405 = true then ((lockgateref06_Reached.f kj9 l0 t355).bind fun t406 => ((lockgatelaw06_same.f kj9 t394 t406).bind fun t409 => (lockgatelaw06_FlowTells.j1 kj9 l0 t344 t355 t361 t372 (!t409)))) else (lockgatelaw06_FlowTells.j1 kj9 l0 t344 t355 t361 t372 true)))) else (lockgatelaw06_FlowTells.j1 kj9 l0 t344 t355 t361 t372 true)))) = some r := H
            have A38 := Aside0.mk A380
            clear A380
            have HC39 := Aside0.mk H
            clear H
            obtain ⟨Ao40, co40, eo40⟩ := Kd.R_slice HO_8.out
            subst eo40
            try go_wp2_with (first | ((with_reducible refine gate_callee (f := 14) rfl ?_); refine goesL_ (some 47) rfl rfl Try.func14 (by kernel_rfl) rfl #[.slice Ao40 t355.length co40] rfl mp_ ?_; (with_reducible refine (lockgatekit_LentInts.calls kj9 _ _ t355 t361 _ ?side1 ?side2 A22.out).mono ?_); (case side1 => repeat (first | exact (Kd.R_reads' HO_8.out).2.2 | (with_reducible refine Kd.C_alloc ?_ _) | (with_reducible refine Kd.C_drewN ?_ _) | (with_reducible refine Kd.C_drew ?_))); (case side2 => exact (Kd.R_reads' HO_8.out).2.1); rintro e w41 ⟨v362, rfl, ho0, hb⟩; refine ⟨_, rfl, ?_⟩; have n0_ := Aside0.mk (Kd.R_below (by (with_reducible repeat (first | apply Kd.R_alloc | apply Kd.R_drewN | apply Kd.R_drew)); exact HO_5.out) hb); have n1_ := Aside0.mk (Kd.R_elder' (by (with_reducible repeat (first | apply Kd.R_alloc | apply Kd.R_drewN | apply Kd.R_drew)); exact HO_6.out) (Kd.R_base ho0) hb); have n2_ := Aside0.mk (Kd.R_elder' (by (with_reducible repeat (first | apply Kd.R_alloc | apply Kd.R_drewN | apply Kd.R_drew)); exact HO_8.out) (Kd.R_base ho0) hb); have n3_ := Aside0.mk (Kd.R_lower (Kd.R_new' (Kd.R_new' ho0 (Kd.R_lt (by (with_reducible repeat (first | apply Kd.R_alloc | apply Kd.R_drewN | apply Kd.R_drew)); exact HO_6.out))) (Kd.R_lt (by (with_reducible repeat (first | apply Kd.R_alloc | apply Kd.R_drewN | apply Kd.R_drew)); exact HO_8.out))) (below_size bz_)); have n4_ := Aside0.mk (Kd.C_below (by repeat (first | (with_reducible exact HR350.out) | (with_reducible refine Kd.C_alloc ?_ _) | (with_reducible refine Kd.C_drewN ?_ _) | (with_reducible refine Kd.C_drew ?_) | exact HR350.out)) hb); have n5_ := bl_ hb; clear HO_5; clear HO_6; clear HO_8; clear HR350; clear HB; have HO_5 := n0_; have HO_6 := n1_; have HO_8 := n2_; have HO363 := n3_; have HR350 := n4_; have HB := n5_; clear n0_ n1_ n2_ n3_ n4_ n5_; (try clear hb); (try clear hb2); (try clear hk); (try clear hi); (try clear ho0)))
            replace HO_5 := Aside0.mk (Kd.R_drew HO_5.out)
            replace HO_6 := Aside0.mk (Kd.R_drew HO_6.out)
            replace HO_8 := Aside0.mk (Kd.R_drew HO_8.out)
            replace HO363 := Aside0.mk (Kd.R_drew HO363.out)
            replace HR350 := Aside0.mk (Kd.C_drew HR350.out)
            replace HB := Aside0.mk (below_drew1 HB.out)
            have q43 : ((l0.length : Int) : Int) ≤ ((t344.length : Int) : Int) := of_decide_eq_true (by first | (with_reducible assumption) | assumption)
            obtain ⟨i043, hi043, _, hsz43, _⟩ := info_parts info42
            have hroom43 : t344.length ≤ co13 := (Kd.R_reads' HO_5.out).2.1
            have hC43 : Kd.C k42 _ Ao13 t344.length t344 := (Kd.R_reads' HO_5.out).2.2
            (try clear hcut12); have hcut43 := cut_to (P := Try.prog) 22 42 .i64 Try.underlying22 hi043 Ao13 t344.length co13 (l0.length : Int) (of_decide_eq_true (by first | (with_reducible assumption) | assumption)) q43 hroom43
            have hr43 := Kd.C_take (m := ((l0.length : Int) : Int).toNat) hC43 (by omega)
            have hy43 : y364.length = ((l0.length : Int) : Int).toNat := (by rw [Ny364.out, List.length_take]; omega)
            rw [← Ny364.out] at hr43
            rw [← hy43] at hcut43
            have HR367 := Aside0.mk hr43
            have HC367 := Aside0.mk (show y364.length ≤ co13 from by omega)
            clear hr43 hC43 hroom43 hi043 hsz43
            have KY43 := Aside0.mk hy43
            clear hy43
            have KL43 := Aside0.mk (show ((l0.length : Int) : Int).toNat ≤ t344.length from by omega)
            replace q43 := eq_true q43
            obtain ⟨Ao45, co45, eo45⟩ := Kd.R_slice HO363.out
            (first | subst eo45 | (injection eo45 with f1_ f2_ f3_; have f4_ := f1_.symm; have f5_ := f3_.symm; clear f1_ f2_ f3_; subst f4_; subst f5_))
            have q44 : ((t355.length : Int) : Int) ≤ ((t361.length : Int) : Int) := of_decide_eq_true (by first | (with_reducible assumption) | assumption)
            obtain ⟨i044, hi044, _, hsz44, _⟩ := info_parts info3
            have hroom44 : t361.length ≤ co45 := (Kd.R_reads' HO363.out).2.1
            have hC44 : Kd.C (Kd.int .i64) _ Ao45 t361.length t361 := (Kd.R_reads' HO363.out).2.2
            have hcut44 := cut_to (P := Try.prog) 26 3 .i64 Try.underlying26 hi044 Ao45 t361.length co45 (t355.length : Int) (of_decide_eq_true (by first | (with_reducible assumption) | assumption)) q44 hroom44
            have hr44 := Kd.C_take (m := ((t355.length : Int) : Int).toNat) hC44 (by omega)
            have hy44 : y368.length = ((t355.length : Int) : Int).toNat := (by rw [Ny368.out, List.length_take]; omega)
            rw [← Ny368.out] at hr44
            rw [← hy44] at hcut44
            have HR371 := Aside0.mk hr44
            have HC371 := Aside0.mk (show y368.length ≤ co45 from by omega)
            clear hr44 hC44 hroom44 hi044 hsz44
            have KY44 := Aside0.mk hy44
            clear hy44
            have KL44 := Aside0.mk (show ((t355.length : Int) : Int).toNat ≤ t361.length from by omega)
            replace q44 := eq_true q44
            refine start_ (n := 11) (S := fun w' => True) (ds := []) #[n_,n_,n_,n_,n_,n_,n_,n_,n_,n_,n_] (by kernel_rfl) rfl rfl trivial (fun hHeld => ?_); refine with_tabW lockgatelaw06_FlowTells.tab11 lockgatelaw06_FlowTells.bits11 (fun HT_ HW_ => ?_)
            generalize w41.drew = w42 at HO_5 HO_6 HO_8 HO363 HR350 HB HR367 HR371 hHeld ⊢
            refine pq_ 0 48 #[y_,n_,n_,n_,n_,n_,n_,n_,n_,n_,n_] ?_
            refine pq_ 1 49 #[y_,y_,n_,n_,n_,n_,n_,n_,n_,n_,n_] ?_
            refine pq_ 2 50 #[y_,y_,y_,n_,n_,n_,n_,n_,n_,n_,n_] ?_
            refine pq_ 3 51 #[y_,y_,y_,y_,n_,n_,n_,n_,n_,n_,n_] ?_
            refine pq_ 4 52 #[y_,y_,y_,y_,y_,n_,n_,n_,n_,n_,n_] ?_
            refine pq_ 5 53 #[y_,y_,y_,y_,y_,y_,n_,n_,n_,n_,n_] ?_
            refine pq_ 6 54 #[y_,y_,y_,y_,y_,y_,y_,n_,n_,n_,n_] ?_
            refine pq_ 7 55 #[y_,y_,y_,y_,y_,y_,y_,y_,n_,n_,n_] ?_
            refine pq_ 8 56 #[y_,y_,y_,y_,y_,y_,y_,y_,y_,n_,n_] ?_
            refine one_ (i := 9) (N := some 57) #[y_,y_,y_,y_,y_,y_,y_,y_,y_,y_,n_] rfl rfl (one_of HT_.out (by kernel_rfl)) (by decide) (fun K hK => ?_)
            refine goes_ Try.func15 (by kernel_rfl) rfl #[.slice Ao13 y364.length co13, .slice Ao45 y368.length co45, .int .i64 a1] (by rfl) rfl rfl mp_ ?_
            with_reducible refine (flow_Next.calls kj9 _ _ y364 _ _ y368 a1 t372 _ ?side1 ?side2 ?side3 ?side4 A27.out).mono ?_
            (case side1 => repeat (first | exact (by repeat (first | (with_reducible exact HR367.out) | (with_reducible refine Kd.C_alloc ?_ _) | (with_reducible refine Kd.C_drewN ?_ _) | (with_reducible refine Kd.C_drew ?_) | exact HR367.out)) | (with_reducible refine Kd.C_alloc ?_ _) | (with_reducible refine Kd.C_drewN ?_ _) | (with_reducible refine Kd.C_drew ?_)))
            (case side2 => exact HC367.out)
            (case side3 => repeat (first | exact (by repeat (first | (with_reducible exact HR371.out) | (with_reducible refine Kd.C_alloc ?_ _) | (with_reducible refine Kd.C_drewN ?_ _) | (with_reducible refine Kd.C_drew ?_) | exact HR371.out)) | (with_reducible refine Kd.C_alloc ?_ _) | (with_reducible refine Kd.C_drewN ?_ _) | (with_reducible refine Kd.C_drew ?_)))
            (case side4 => exact HC371.out)
            rintro e w46 ⟨v373, rfl, ho0, hb⟩
            refine ⟨_, rfl, ?_⟩
            have HO374 := Aside0.mk (Kd.R_lower (Kd.R_new' (Kd.R_new' (Kd.R_new' ho0 (Kd.R_lt (by (with_reducible repeat (first | apply Kd.R_alloc | apply Kd.R_drewN | apply Kd.R_drew)); exact HO_6.out))) (Kd.R_lt (by (with_reducible repeat (first | apply Kd.R_alloc | apply Kd.R_drewN | apply Kd.R_drew)); exact HO_8.out))) (Kd.R_lt (by (with_reducible repeat (first | apply Kd.R_alloc | apply Kd.R_drewN | apply Kd.R_drew)); exact HO363.out))) (below_size bz_))
            replace HO_5 := Aside0.mk (Kd.R_below (by (with_reducible repeat (first | apply Kd.R_alloc | apply Kd.R_drewN | apply Kd.R_drew)); exact HO_5.out) hb)
            replace HO_6 := Aside0.mk (Kd.R_elder' (by (with_reducible repeat (first | apply Kd.R_alloc | apply Kd.R_drewN | apply Kd.R_drew)); exact HO_6.out) (Kd.R_base ho0) hb)
            replace HO_8 := Aside0.mk (Kd.R_elder' (by (with_reducible repeat (first | apply Kd.R_alloc | apply Kd.R_drewN | apply Kd.R_drew)); exact HO_8.out) (Kd.R_base ho0) hb)
            replace HO363 := Aside0.mk (Kd.R_elder' (by (with_reducible repeat (first | apply Kd.R_alloc | apply Kd.R_drewN | apply Kd.R_drew)); exact HO363.out) (Kd.R_base ho0) hb)
            replace HR350 := Aside0.mk (Kd.C_below (by repeat (first | (with_reducible exact HR350.out) | (with_reducible refine Kd.C_alloc ?_ _) | (with_reducible refine Kd.C_drewN ?_ _) | (with_reducible refine Kd.C_drew ?_) | exact HR350.out)) hb)
            replace HR367 := Aside0.mk (Kd.C_below (by repeat (first | (with_reducible exact HR367.out) | (with_reducible refine Kd.C_alloc ?_ _) | (with_reducible refine Kd.C_drewN ?_ _) | (with_reducible refine Kd.C_drew ?_) | exact HR367.out)) hb)
            replace HR371 := Aside0.mk (Kd.C_below (by repeat (first | (with_reducible exact HR371.out) | (with_reducible refine Kd.C_alloc ?_ _) | (with_reducible refine Kd.C_drewN ?_ _) | (with_reducible refine Kd.C_drew ?_) | exact HR371.out)) hb)
            replace HB := bl_ hb
            try clear hb
            (try clear ho0)
            refine hK.out _ _ trivial (fun hHeld => ?_)
            clear hK K
            refine norm_ (a' := ?_) ?_ ?_
            rotate_left
            ·show Act.put _ (some 57) _ = _
             simp only [Act.put, s1_, s2_, s3_, i64_w, i32_w]
             rfl
            refine pq_ 10 11 #[y_,y_,y_,y_,y_,y_,y_,y_,y_,y_,y_] ?_
            refine done_ (done_of HT_.out (by kernel_rfl)) ?_
            try go_wp2
            replace HO_5 := Aside0.mk (Kd.R_drew HO_5.out)
            replace HO_6 := Aside0.mk (Kd.R_drew HO_6.out)
            replace HO_8 := Aside0.mk (Kd.R_drew HO_8.out)
            replace HO363 := Aside0.mk (Kd.R_drew HO363.out)
            replace HO374 := Aside0.mk (Kd.R_drew HO374.out)
            replace HR350 := Aside0.mk (Kd.C_drew HR350.out)
            replace HR367 := Aside0.mk (Kd.C_drew HR367.out)
            replace HR371 := Aside0.mk (Kd.C_drew HR371.out)
            replace HB := Aside0.mk (below_drew1 HB.out)
            have q48 : ((l0.length : Int) : Int) ≤ ((t344.length : Int) : Int) := of_decide_eq_true (by first | (with_reducible assumption) | assumption)
            obtain ⟨i048, hi048, _, hsz48, _⟩ := info_parts info42
            have hroom48 : t344.length ≤ co13 := (Kd.R_reads' HO_5.out).2.1
            have hC48 : Kd.C k42 _ Ao13 t344.length t344 := (Kd.R_reads' HO_5.out).2.2
            (try clear hcut43); have hcut48 := cut_to (P := Try.prog) 22 42 .i64 Try.underlying22 hi048 Ao13 t344.length co13 (l0.length : Int) (of_decide_eq_true (by first | (with_reducible assumption) | assumption)) q48 hroom48
            have hr48 := Kd.C_take (m := ((l0.length : Int) : Int).toNat) hC48 (by omega)
            have hy48 : y375.length = ((l0.length : Int) : Int).toNat := (by rw [Ny375.out, List.length_take]; omega)
            rw [← Ny375.out] at hr48
            rw [← hy48] at hcut48
            have HR378 := Aside0.mk hr48
            have HC378 := Aside0.mk (show y375.length ≤ co13 from by omega)
            clear hr48 hC48 hroom48 hi048 hsz48
            have KY48 := Aside0.mk hy48
            clear hy48
            have KL48 := Aside0.mk (show ((l0.length : Int) : Int).toNat ≤ t344.length from by omega)
            replace q48 := eq_true q48
            have q49 : ((t355.length : Int) : Int) ≤ ((t361.length : Int) : Int) := of_decide_eq_true (by first | (with_reducible assumption) | assumption)
            obtain ⟨i049, hi049, _, hsz49, _⟩ := info_parts info3
            have hroom49 : t361.length ≤ co45 := (Kd.R_reads' HO363.out).2.1
            have hC49 : Kd.C (Kd.int .i64) _ Ao45 t361.length t361 := (Kd.R_reads' HO363.out).2.2
            (try clear hcut44); have hcut49 := cut_to (P := Try.prog) 26 3 .i64 Try.underlying26 hi049 Ao45 t361.length co45 (t355.length : Int) (of_decide_eq_true (by first | (with_reducible assumption) | assumption)) q49 hroom49
            have hr49 := Kd.C_take (m := ((t355.length : Int) : Int).toNat) hC49 (by omega)
            have hy49 : y379.length = ((t355.length : Int) : Int).toNat := (by rw [Ny379.out, List.length_take]; omega)
            rw [← Ny379.out] at hr49
            rw [← hy49] at hcut49
            have HR382 := Aside0.mk hr49
            have HC382 := Aside0.mk (show y379.length ≤ co45 from by omega)
            clear hr49 hC49 hroom49 hi049 hsz49
            have KY49 := Aside0.mk hy49
            clear hy49
            have KL49 := Aside0.mk (show ((t355.length : Int) : Int).toNat ≤ t361.length from by omega)
            replace q49 := eq_true q49
            refine start_ (n := 10) (S := fun w' => True) (ds := []) #[n_,n_,n_,n_,n_,n_,n_,n_,n_,n_] (by kernel_rfl) rfl rfl trivial (fun hHeld => ?_); refine with_tabW lockgatelaw06_FlowTells.tab12 lockgatelaw06_FlowTells.bits12 (fun HT_ HW_ => ?_)
            generalize w46.drew = w47 at HO_5 HO_6 HO_8 HO363 HO374 HR350 HR367 HR371 HB HR378 HR382 hHeld ⊢
            refine pq_ 0 58 #[y_,n_,n_,n_,n_,n_,n_,n_,n_,n_] ?_
            refine pq_ 1 59 #[y_,y_,n_,n_,n_,n_,n_,n_,n_,n_] ?_
            refine pq_ 2 60 #[y_,y_,y_,n_,n_,n_,n_,n_,n_,n_] ?_
            refine pq_ 3 61 #[y_,y_,y_,y_,n_,n_,n_,n_,n_,n_] ?_
            refine pq_ 4 62 #[y_,y_,y_,y_,y_,n_,n_,n_,n_,n_] ?_
            refine pq_ 5 63 #[y_,y_,y_,y_,y_,y_,n_,n_,n_,n_] ?_
            refine pq_ 6 64 #[y_,y_,y_,y_,y_,y_,y_,n_,n_,n_] ?_
            refine pq_ 7 65 #[y_,y_,y_,y_,y_,y_,y_,y_,n_,n_] ?_
            refine one_ (i := 8) (N := some 66) #[y_,y_,y_,y_,y_,y_,y_,y_,y_,n_] rfl rfl (one_of HT_.out (by kernel_rfl)) (by decide) (fun K hK => ?_)
            refine goes_ Try.func16 (by kernel_rfl) rfl #[.slice Ao13 y375.length co13, .slice Ao45 y379.length co45] (by rfl) rfl rfl mp_ ?_
            with_reducible refine (flow_Heads.calls kj9 _ _ y375 _ _ y379 t383 _ ?side1 ?side2 ?side3 ?side4 A32.out).mono ?_
            (case side1 => repeat (first | exact (by repeat (first | (with_reducible exact HR378.out) | (with_reducible refine Kd.C_alloc ?_ _) | (with_reducible refine Kd.C_drewN ?_ _) | (with_reducible refine Kd.C_drew ?_) | exact HR378.out)) | (with_reducible refine Kd.C_alloc ?_ _) | (with_reducible refine Kd.C_drewN ?_ _) | (with_reducible refine Kd.C_drew ?_)))
            (case side2 => exact HC378.out)
            (case side3 => repeat (first | exact (by repeat (first | (with_reducible exact HR382.out) | (with_reducible refine Kd.C_alloc ?_ _) | (with_reducible refine Kd.C_drewN ?_ _) | (with_reducible refine Kd.C_drew ?_) | exact HR382.out)) | (with_reducible refine Kd.C_alloc ?_ _) | (with_reducible refine Kd.C_drewN ?_ _) | (with_reducible refine Kd.C_drew ?_)))
            (case side4 => exact HC382.out)
            rintro e w50 ⟨v384, rfl, ho0, hb⟩
            refine ⟨_, rfl, ?_⟩
            have HO385 := Aside0.mk (Kd.R_lower ho0 (below_size bz_))
            replace HO_5 := Aside0.mk (Kd.R_below (by (with_reducible repeat (first | apply Kd.R_alloc | apply Kd.R_drewN | apply Kd.R_drew)); exact HO_5.out) hb)
            replace HO_6 := Aside0.mk (Kd.R_below (by (with_reducible repeat (first | apply Kd.R_alloc | apply Kd.R_drewN | apply Kd.R_drew)); exact HO_6.out) hb)
            replace HO_8 := Aside0.mk (Kd.R_below (by (with_reducible repeat (first | apply Kd.R_alloc | apply Kd.R_drewN | apply Kd.R_drew)); exact HO_8.out) hb)
            replace HO363 := Aside0.mk (Kd.R_below (by (with_reducible repeat (first | apply Kd.R_alloc | apply Kd.R_drewN | apply Kd.R_drew)); exact HO363.out) hb)
            replace HO374 := Aside0.mk (Kd.R_below (by (with_reducible repeat (first | apply Kd.R_alloc | apply Kd.R_drewN | apply Kd.R_drew)); exact HO374.out) hb)
            replace HR350 := Aside0.mk (Kd.C_below (by repeat (first | (with_reducible exact HR350.out) | (with_reducible refine Kd.C_alloc ?_ _) | (with_reducible refine Kd.C_drewN ?_ _) | (with_reducible refine Kd.C_drew ?_) | exact HR350.out)) hb)
            replace HR367 := Aside0.mk (Kd.C_below (by repeat (first | (with_reducible exact HR367.out) | (with_reducible refine Kd.C_alloc ?_ _) | (with_reducible refine Kd.C_drewN ?_ _) | (with_reducible refine Kd.C_drew ?_) | exact HR367.out)) hb)
            replace HR371 := Aside0.mk (Kd.C_below (by repeat (first | (with_reducible exact HR371.out) | (with_reducible refine Kd.C_alloc ?_ _) | (with_reducible refine Kd.C_drewN ?_ _) | (with_reducible refine Kd.C_drew ?_) | exact HR371.out)) hb)
            replace HR378 := Aside0.mk (Kd.C_below (by repeat (first | (with_reducible exact HR378.out) | (with_reducible refine Kd.C_alloc ?_ _) | (with_reducible refine Kd.C_drewN ?_ _) | (with_reducible refine Kd.C_drew ?_) | exact HR378.out)) hb)
            replace HR382 := Aside0.mk (Kd.C_below (by repeat (first | (with_reducible exact HR382.out) | (with_reducible refine Kd.C_alloc ?_ _) | (with_reducible refine Kd.C_drewN ?_ _) | (with_reducible refine Kd.C_drew ?_) | exact HR382.out)) hb)
            replace HB := bl_ hb
            try clear hb
            (try clear ho0)
            refine hK.out _ _ trivial (fun hHeld => ?_)
            clear hK K
            refine norm_ (a' := ?_) ?_ ?_
            rotate_left
            ·show Act.put _ (some 66) _ = _
             simp only [Act.put, s1_, s2_, s3_, i64_w, i32_w]
             rfl
            refine pq_ 9 12 #[y_,y_,y_,y_,y_,y_,y_,y_,y_,y_] ?_
            refine done_ (done_of HT_.out (by kernel_rfl)) ?_
            try go_wp2
            replace HO_5 := Aside0.mk (Kd.R_drew HO_5.out)
            replace HO_6 := Aside0.mk (Kd.R_drew HO_6.out)
            replace HO_8 := Aside0.mk (Kd.R_drew HO_8.out)
            replace HO363 := Aside0.mk (Kd.R_drew HO363.out)
            replace HO374 := Aside0.mk (Kd.R_drew HO374.out)
            replace HO385 := Aside0.mk (Kd.R_drew HO385.out)
            replace HR350 := Aside0.mk (Kd.C_drew HR350.out)
            replace HR367 := Aside0.mk (Kd.C_drew HR367.out)
            replace HR371 := Aside0.mk (Kd.C_drew HR371.out)
            replace HR378 := Aside0.mk (Kd.C_drew HR378.out)
            replace HR382 := Aside0.mk (Kd.C_drew HR382.out)
            replace HB := Aside0.mk (below_drew1 HB.out)
            have q52 : ((l0.length : Int) : Int) ≤ ((t344.length : Int) : Int) := of_decide_eq_true (by first | (with_reducible assumption) | assumption)
            obtain ⟨i052, hi052, _, hsz52, _⟩ := info_parts info42
            have hroom52 : t344.length ≤ co13 := (Kd.R_reads' HO_5.out).2.1
            have hC52 : Kd.C k42 _ Ao13 t344.length t344 := (Kd.R_reads' HO_5.out).2.2
            (try clear hcut48); have hcut52 := cut_to (P := Try.prog) 22 42 .i64 Try.underlying22 hi052 Ao13 t344.length co13 (l0.length : Int) (of_decide_eq_true (by first | (with_reducible assumption) | assumption)) q52 hroom52
            have hr52 := Kd.C_take (m := ((l0.length : Int) : Int).toNat) hC52 (by omega)
            have hy52 : y386.length = ((l0.length : Int) : Int).toNat := (by rw [Ny386.out, List.length_take]; omega)
            rw [← Ny386.out] at hr52
            rw [← hy52] at hcut52
            have HR389 := Aside0.mk hr52
            have HC389 := Aside0.mk (show y386.length ≤ co13 from by omega)
            clear hr52 hC52 hroom52 hi052 hsz52
            have KY52 := Aside0.mk hy52
            clear hy52
            have KL52 := Aside0.mk (show ((l0.length : Int) : Int).toNat ≤ t344.length from by omega)
            replace q52 := eq_true q52
            have q53 : ((t355.length : Int) : Int) ≤ ((t361.length : Int) : Int) := of_decide_eq_true (by first | (with_reducible assumption) | assumption)
            obtain ⟨i053, hi053, _, hsz53, _⟩ := info_parts info3
            have hroom53 : t361.length ≤ co45 := (Kd.R_reads' HO363.out).2.1
            have hC53 : Kd.C (Kd.int .i64) _ Ao45 t361.length t361 := (Kd.R_reads' HO363.out).2.2
            (try clear hcut49); have hcut53 := cut_to (P := Try.prog) 26 3 .i64 Try.underlying26 hi053 Ao45 t361.length co45 (t355.length : Int) (of_decide_eq_true (by first | (with_reducible assumption) | assumption)) q53 hroom53
            have hr53 := Kd.C_take (m := ((t355.length : Int) : Int).toNat) hC53 (by omega)
            have hy53 : y390.length = ((t355.length : Int) : Int).toNat := (by rw [Ny390.out, List.length_take]; omega)
            rw [← Ny390.out] at hr53
            rw [← hy53] at hcut53
            have HR393 := Aside0.mk hr53
            have HC393 := Aside0.mk (show y390.length ≤ co45 from by omega)
            clear hr53 hC53 hroom53 hi053 hsz53
            have KY53 := Aside0.mk hy53
            clear hy53
            have KL53 := Aside0.mk (show ((t355.length : Int) : Int).toNat ≤ t361.length from by omega)
            replace q53 := eq_true q53
            refine start_ (n := 10) (S := fun w' => True) (ds := []) #[n_,n_,n_,n_,n_,n_,n_,n_,n_,n_] (by kernel_rfl) rfl rfl trivial (fun hHeld => ?_); refine with_tabW lockgatelaw06_FlowTells.tab13 lockgatelaw06_FlowTells.bits13 (fun HT_ HW_ => ?_)
            generalize w50.drew = w51 at HO_5 HO_6 HO_8 HO363 HO374 HO385 HR350 HR367 HR371 HR378 HR382 HB HR389 HR393 hHeld ⊢
            refine pq_ 0 67 #[y_,n_,n_,n_,n_,n_,n_,n_,n_,n_] ?_
            refine pq_ 1 68 #[y_,y_,n_,n_,n_,n_,n_,n_,n_,n_] ?_
            refine pq_ 2 69 #[y_,y_,y_,n_,n_,n_,n_,n_,n_,n_] ?_
            refine pq_ 3 70 #[y_,y_,y_,y_,n_,n_,n_,n_,n_,n_] ?_
            refine pq_ 4 71 #[y_,y_,y_,y_,y_,n_,n_,n_,n_,n_] ?_
            refine pq_ 5 72 #[y_,y_,y_,y_,y_,y_,n_,n_,n_,n_] ?_
            refine pq_ 6 73 #[y_,y_,y_,y_,y_,y_,y_,n_,n_,n_] ?_
            refine pq_ 7 74 #[y_,y_,y_,y_,y_,y_,y_,y_,n_,n_] ?_
            refine one_ (i := 8) (N := some 75) #[y_,y_,y_,y_,y_,y_,y_,y_,y_,n_] rfl rfl (one_of HT_.out (by kernel_rfl)) (by decide) (fun K hK => ?_)
            refine goes_ Try.func17 (by kernel_rfl) rfl #[.slice Ao13 y386.length co13, .slice Ao45 y390.length co45] (by rfl) rfl rfl mp_ ?_
            with_reducible refine (flow_Reached.calls kj9 _ _ y386 _ _ y390 t394 _ ?side1 ?side2 ?side3 ?side4 A37.out).mono ?_
            (case side1 => repeat (first | exact (by repeat (first | (with_reducible exact HR389.out) | (with_reducible refine Kd.C_alloc ?_ _) | (with_reducible refine Kd.C_drewN ?_ _) | (with_reducible refine Kd.C_drew ?_) | exact HR389.out)) | (with_reducible refine Kd.C_alloc ?_ _) | (with_reducible refine Kd.C_drewN ?_ _) | (with_reducible refine Kd.C_drew ?_)))
            (case side2 => exact HC389.out)
            (case side3 => repeat (first | exact (by repeat (first | (with_reducible exact HR393.out) | (with_reducible refine Kd.C_alloc ?_ _) | (with_reducible refine Kd.C_drewN ?_ _) | (with_reducible refine Kd.C_drew ?_) | exact HR393.out)) | (with_reducible refine Kd.C_alloc ?_ _) | (with_reducible refine Kd.C_drewN ?_ _) | (with_reducible refine Kd.C_drew ?_)))
            (case side4 => exact HC393.out)
            rintro e w54 ⟨v395, rfl, ho0, hb⟩
            refine ⟨_, rfl, ?_⟩
            have HO396 := Aside0.mk (Kd.R_lower (Kd.R_new' ho0 (Kd.R_lt (by (with_reducible repeat (first | apply Kd.R_alloc | apply Kd.R_drewN | apply Kd.R_drew)); exact HO385.out))) (below_size bz_))
            replace HO_5 := Aside0.mk (Kd.R_below (by (with_reducible repeat (first | apply Kd.R_alloc | apply Kd.R_drewN | apply Kd.R_drew)); exact HO_5.out) hb)
            replace HO_6 := Aside0.mk (Kd.R_below (by (with_reducible repeat (first | apply Kd.R_alloc | apply Kd.R_drewN | apply Kd.R_drew)); exact HO_6.out) hb)
            replace HO_8 := Aside0.mk (Kd.R_below (by (with_reducible repeat (first | apply Kd.R_alloc | apply Kd.R_drewN | apply Kd.R_drew)); exact HO_8.out) hb)
            replace HO363 := Aside0.mk (Kd.R_below (by (with_reducible repeat (first | apply Kd.R_alloc | apply Kd.R_drewN | apply Kd.R_drew)); exact HO363.out) hb)
            replace HO374 := Aside0.mk (Kd.R_below (by (with_reducible repeat (first | apply Kd.R_alloc | apply Kd.R_drewN | apply Kd.R_drew)); exact HO374.out) hb)
            replace HO385 := Aside0.mk (Kd.R_elder' (by (with_reducible repeat (first | apply Kd.R_alloc | apply Kd.R_drewN | apply Kd.R_drew)); exact HO385.out) (Kd.R_base ho0) hb)
            replace HR350 := Aside0.mk (Kd.C_below (by repeat (first | (with_reducible exact HR350.out) | (with_reducible refine Kd.C_alloc ?_ _) | (with_reducible refine Kd.C_drewN ?_ _) | (with_reducible refine Kd.C_drew ?_) | exact HR350.out)) hb)
            replace HR367 := Aside0.mk (Kd.C_below (by repeat (first | (with_reducible exact HR367.out) | (with_reducible refine Kd.C_alloc ?_ _) | (with_reducible refine Kd.C_drewN ?_ _) | (with_reducible refine Kd.C_drew ?_) | exact HR367.out)) hb)
            replace HR371 := Aside0.mk (Kd.C_below (by repeat (first | (with_reducible exact HR371.out) | (with_reducible refine Kd.C_alloc ?_ _) | (with_reducible refine Kd.C_drewN ?_ _) | (with_reducible refine Kd.C_drew ?_) | exact HR371.out)) hb)
            replace HR378 := Aside0.mk (Kd.C_below (by repeat (first | (with_reducible exact HR378.out) | (with_reducible refine Kd.C_alloc ?_ _) | (with_reducible refine Kd.C_drewN ?_ _) | (with_reducible refine Kd.C_drew ?_) | exact HR378.out)) hb)
            replace HR382 := Aside0.mk (Kd.C_below (by repeat (first | (with_reducible exact HR382.out) | (with_reducible refine Kd.C_alloc ?_ _) | (with_reducible refine Kd.C_drewN ?_ _) | (with_reducible refine Kd.C_drew ?_) | exact HR382.out)) hb)
            replace HR389 := Aside0.mk (Kd.C_below (by repeat (first | (with_reducible exact HR389.out) | (with_reducible refine Kd.C_alloc ?_ _) | (with_reducible refine Kd.C_drewN ?_ _) | (with_reducible refine Kd.C_drew ?_) | exact HR389.out)) hb)
            replace HR393 := Aside0.mk (Kd.C_below (by repeat (first | (with_reducible exact HR393.out) | (with_reducible refine Kd.C_alloc ?_ _) | (with_reducible refine Kd.C_drewN ?_ _) | (with_reducible refine Kd.C_drew ?_) | exact HR393.out)) hb)
            replace HB := bl_ hb
            try clear hb
            (try clear ho0)
            refine hK.out _ _ trivial (fun hHeld => ?_)
            clear hK K
            refine norm_ (a' := ?_) ?_ ?_
            rotate_left
            ·show Act.put _ (some 75) _ = _
             simp only [Act.put, s1_, s2_, s3_, i64_w, i32_w]
             rfl
            refine pq_ 9 13 #[y_,y_,y_,y_,y_,y_,y_,y_,y_,y_] ?_
            refine done_ (done_of HT_.out (by kernel_rfl)) ?_
            obtain ⟨Ao55, co55, eo55⟩ := Kd.R_slice HO_6.out
            subst eo55
            go_upto_region 15 with (first | ((with_reducible refine gate_callee (f := 18) rfl ?_); refine goesL_ (some 77) rfl rfl Try.func18 (by kernel_rfl) rfl #[.slice Ao55 t351.length co55] rfl mp_ ?_; (with_reducible refine (lockgatekit_SpoilInts.calls kj9 (fun k_ => some k_ = (.slice Ao55 t351.length co55 : Value).ownBlock) (.slice Ao55 t351.length co55) t351 t397 w _ ?side1 ?side2 A38.out).mono ?_); (case side1 => repeat (first | (with_reducible first | exact HB.out | apply lA_ | apply lN_ | apply lD_) | exact HB.out)); (case side2 => exact Kd.R_tight rfl HO_6.out); rintro e w56 ⟨rfl, hy0, hb, hkp⟩; refine ⟨_, rfl, ?_⟩; have n0_ := Aside0.mk (Kd.R_mono (ok' := fun k_ => True) (Kd.R_keptB ((Kd.R_apart' HO_5.out (Kd.R_typed HO_6.out) (by decide))) hkp (fun k_ hk_ hs_ => (hk_.2) hs_)) (fun k_ hk_ => trivial)); have n1_ := Aside0.mk (Kd.R_reok rfl hy0 (fun k_ e_ => HO_6.out.1 k_ e_)); have n2_ := Aside0.mk (Kd.R_mono (ok' := fun k_ => some k_ ≠ (.slice Ao55 t351.length co55 : Value).ownBlock ∧ some k_ ≠ (.slice Ao45 t361.length co45 : Value).ownBlock ∧ some k_ ≠ (v373 : Value).ownBlock) (Kd.R_keptB (HO_8.out) hkp (fun k_ hk_ hs_ => (hk_.1.1) hs_)) (fun k_ hk_ => ⟨hk_.1.1.1, hk_.1.1.2, hk_.1.2⟩)); have n3_ := Aside0.mk (Kd.R_mono (ok' := fun k_ => some k_ ≠ (.slice Ao55 t351.length co55 : Value).ownBlock ∧ some k_ ≠ (.slice Ao40 t355.length co40 : Value).ownBlock ∧ some k_ ≠ (v373 : Value).ownBlock) (Kd.R_keptB (HO363.out) hkp (fun k_ hk_ hs_ => (hk_.1.1.2) hs_)) (fun k_ hk_ => ⟨hk_.1.1.1.2, hk_.1.1.2, hk_.1.2⟩)); have n4_ := Aside0.mk (Kd.R_mono (ok' := fun k_ => some k_ ≠ (.slice Ao55 t351.length co55 : Value).ownBlock ∧ some k_ ≠ (.slice Ao40 t355.length co40 : Value).ownBlock ∧ some k_ ≠ (.slice Ao45 t361.length co45 : Value).ownBlock) (Kd.R_keptB (HO374.out) hkp (fun k_ hk_ hs_ => (hk_.1.1.2) hs_)) (fun k_ hk_ => ⟨hk_.1.1.1.2, hk_.1.1.2, hk_.1.2⟩)); have n5_ := Aside0.mk (Kd.R_mono (ok' := fun k_ => some k_ ≠ (v395 : Value).ownBlock) (Kd.R_keptB ((Kd.R_apart' HO385.out (Kd.R_typed HO_6.out) (by decide))) hkp (fun k_ hk_ hs_ => (hk_.2) hs_)) (fun k_ hk_ => hk_.1.1.2)); have n6_ := Aside0.mk (Kd.R_mono (ok' := fun k_ => some k_ ≠ (v384 : Value).ownBlock) (Kd.R_keptB ((Kd.R_apart' HO396.out (Kd.R_typed HO_6.out) (by decide))) hkp (fun k_ hk_ hs_ => (hk_.2) hs_)) (fun k_ hk_ => hk_.1.1.2)); have n7_ := Aside0.mk (hb); clear HO_5; clear HO_6; clear HO_8; clear HO363; clear HO374; clear HO385; clear HO396; clear HB; have HO_5 := n0_; have HO_6 := n1_; have HO_8 := n2_; have HO363 := n3_; have HO374 := n4_; have HO385 := n5_; have HO396 := n6_; have HB := n7_; clear n0_ n1_ n2_ n3_ n4_ n5_ n6_ n7_; (try clear hb); (try clear hkp); (try clear hy0)))
            (try simp only [Act.put, s1_, s2_, s3_])
            go_cut [100] (fun v100 wc => ∃ (kq : Nat) (x100_38 : Bool), v100 = .bool x100_38 ∧ Aside0 (lockgatelaw06_FlowTells.j1 kq l0 t344 t355 t361 t372 x100_38 = some r) ∧ Aside0 (kq ≤ kj9) ∧ Aside0 (Kd.R k42 42 wc w.heap.size (fun _ => True) (.slice Ao13 t344.length co13) t344) ∧ Aside0 (Kd.R (Kd.int .i64) 3 wc w.heap.size (fun k_ => some k_ ≠ ((.slice Ao45 t361.length co45) : Value).ownBlock ∧ some k_ ≠ (v373 : Value).ownBlock) (.slice Ao40 t355.length co40) t355) ∧ Aside0 (Kd.R (Kd.int .i64) 3 wc w.heap.size (fun k_ => some k_ ≠ ((.slice Ao40 t355.length co40) : Value).ownBlock ∧ some k_ ≠ (v373 : Value).ownBlock) (.slice Ao45 t361.length co45) t361) ∧ Aside0 (Kd.R (Kd.int .i64) 3 wc w.heap.size (fun k_ => some k_ ≠ ((.slice Ao40 t355.length co40) : Value).ownBlock ∧ some k_ ≠ ((.slice Ao45 t361.length co45) : Value).ownBlock) v373 t372) ∧ Aside0 (Below w.heap.size w wc))
            case first =>
             have H := HC39.out
             clear HC39
             replace H := Option.bind_eq_some_iff.mp H
             obtain ⟨t398, A570, H⟩ := H
             replace H : ((lockgatekit_SameInts.f kj9 t372 t398).bind fun t401 => (if t401 = true then ((lockgateref06_Heads.f kj9 l0 t355).bind fun t402 => ((lockgatelaw06_same.f kj9 t383 t402).bind fun t405 => (if t405 = true then ((lockgateref06_Reached.f kj9 l0 t355).bind fun t406 => ((lockgatelaw06_same.f kj9 t394 t406).bind fun t409 => (lockgatelaw06_FlowTells.j1 kj9 l0 t344 t355 t361 t372 (!t409)))) else (lockgatelaw06_FlowTells.j1 kj9 l0 t344 t355 t361 t372 true)))) else (lockgatelaw06_FlowTells.j1 kj9 l0 t344 t355 t361 t372 true))) = some r := H
             have A57 := Aside0.mk A570
             clear A570
             replace H := Option.bind_eq_some_iff.mp H
             obtain ⟨t401, A580, H⟩ := H
             replace H : (if t401 = true then ((lockgateref06_Heads.f kj9 l0 t355).bind fun t402 => ((lockgatelaw06_same.f kj9 t383 t402).bind fun t405 => (if t405 = true then ((lockgateref06_Reached.f kj9 l0 t355).bind fun t406 => ((lockgatelaw06_same.f kj9 t394 t406).bind fun t409 => (lockgatelaw06_FlowTells.j1 kj9 l0 t344 t355 t361 t372 (!t409)))) else (lockgatelaw06_FlowTells.j1 kj9 l0 t344 t355 t361 t372 true)))) else (lockgatelaw06_FlowTells.j1 kj9 l0 t344 t355 t361 t372 true)) = some r := H
             have A58 := Aside0.mk A580
             clear A580
             by_cases c59 : t401 = true
             ·subst c59
              have H1 : ((lockgateref06_Heads.f kj9 l0 t355).bind fun t402 => ((lockgatelaw06_same.f kj9 t383 t402).bind fun t405 => (if t405 = true then ((lockgateref06_Reached.f kj9 l0 t355).bind fun t406 => ((lockgatelaw06_same.f kj9 t394 t406).bind fun t409 => (lockgatelaw06_FlowTells.j1 kj9 l0 t344 t355 t361 t372 (!t409)))) else (lockgatelaw06_FlowTells.j1 kj9 l0 t344 t355 t361 t372 true)))) = some r := by rw [if_pos rfl] at H; exact H
              clear H
              have H := H1
              clear H1
              replace H := Option.bind_eq_some_iff.mp H
              obtain ⟨t402, A600, H⟩ := H
              replace H : ((lockgatelaw06_same.f kj9 t383 t402).bind fun t405 => (if t405 = true then ((lockgateref06_Reached.f kj9 l0 t355).bind fun t406 => ((lockgatelaw06_same.f kj9 t394 t406).bind fun t409 => (lockgatelaw06_FlowTells.j1 kj9 l0 t344 t355 t361 t372 (!t409)))) else (lockgatelaw06_FlowTells.j1 kj9 l0 t344 t355 t361 t372 true))) = some r := H
              have A60 := Aside0.mk A600
              clear A600
              replace H := Option.bind_eq_some_iff.mp H
              obtain ⟨t405, A610, H⟩ := H
              replace H : (if t405 = true then ((lockgateref06_Reached.f kj9 l0 t355).bind fun t406 => ((lockgatelaw06_same.f kj9 t394 t406).bind fun t409 => (lockgatelaw06_FlowTells.j1 kj9 l0 t344 t355 t361 t372 (!t409)))) else (lockgatelaw06_FlowTells.j1 kj9 l0 t344 t355 t361 t372 true)) = some r := H
              have A61 := Aside0.mk A610
              clear A610
              by_cases c62 : t405 = true
              ·subst c62
               have H1 : ((lockgateref06_Reached.f kj9 l0 t355).bind fun t406 => ((lockgatelaw06_same.f kj9 t394 t406).bind fun t409 => (lockgatelaw06_FlowTells.j1 kj9 l0 t344 t355 t361 t372 (!t409)))) = some r := by rw [if_pos rfl] at H; exact H
               clear H
               have H := H1
               clear H1
               replace H := Option.bind_eq_some_iff.mp H
               obtain ⟨t406, A630, H⟩ := H
               replace H : ((lockgatelaw06_same.f kj9 t394 t406).bind fun t409 => (lockgatelaw06_FlowTells.j1 kj9 l0 t344 t355 t361 t372 (!t409))) = some r := H
               have A63 := Aside0.mk A630
               clear A630
               replace H := Option.bind_eq_some_iff.mp H
               obtain ⟨t409, A640, H⟩ := H
               replace H : (lockgatelaw06_FlowTells.j1 kj9 l0 t344 t355 t361 t372 (!t409)) = some r := H
               have A64 := Aside0.mk A640
               clear A640
               have H' := Aside0.mk H
               clear H
               go_wp2_with (first | ((with_reducible refine gate_callee (f := 19) rfl ?_); refine goesL_ (some 82) rfl rfl Try.func19 (by kernel_rfl) rfl #[.slice A0 l0.length c0, .slice Ao40 t355.length co40, .int .i64 a1] rfl mp_ ?_; (with_reducible refine (lockgateref06_Next.calls kj9 _ _ l0 _ _ t355 a1 t398 _ ?side1 ?side2 ?side3 ?side4 A57.out).mono ?_); (case side1 => repeat (first | exact (Kd.C_below HR0.out HB.out) | (with_reducible refine Kd.C_alloc ?_ _) | (with_reducible refine Kd.C_drewN ?_ _) | (with_reducible refine Kd.C_drew ?_))); (case side2 => exact HC0.out); (case side3 => repeat (first | exact (Kd.R_reads' HO_8.out).2.2 | (with_reducible refine Kd.C_alloc ?_ _) | (with_reducible refine Kd.C_drewN ?_ _) | (with_reducible refine Kd.C_drew ?_))); (case side4 => exact (Kd.R_reads' HO_8.out).2.1); rintro e w65 ⟨v399, rfl, ho0, hb⟩; refine ⟨_, rfl, ?_⟩; have n0_ := Aside0.mk (Kd.R_below (by (with_reducible repeat (first | apply Kd.R_alloc | apply Kd.R_drewN | apply Kd.R_drew)); exact HO_5.out) hb); have n1_ := Aside0.mk (Kd.R_elder' (by (with_reducible repeat (first | apply Kd.R_alloc | apply Kd.R_drewN | apply Kd.R_drew)); exact HO_6.out) (Kd.R_base ho0) hb); have n2_ := Aside0.mk (Kd.R_elder' (by (with_reducible repeat (first | apply Kd.R_alloc | apply Kd.R_drewN | apply Kd.R_drew)); exact HO_8.out) (Kd.R_base ho0) hb); have n3_ := Aside0.mk (Kd.R_elder' (by (with_reducible repeat (first | apply Kd.R_alloc | apply Kd.R_drewN | apply Kd.R_drew)); exact HO363.out) (Kd.R_base ho0) hb); have n4_ := Aside0.mk (Kd.R_elder' (by (with_reducible repeat (first | apply Kd.R_alloc | apply Kd.R_drewN | apply Kd.R_drew)); exact HO374.out) (Kd.R_base ho0) hb); have n5_ := Aside0.mk (Kd.R_below (by (with_reducible repeat (first | apply Kd.R_alloc | apply Kd.R_drewN | apply Kd.R_drew)); exact HO385.out) hb); have n6_ := Aside0.mk (Kd.R_below (by (with_reducible repeat (first | apply Kd.R_alloc | apply Kd.R_drewN | apply Kd.R_drew)); exact HO396.out) hb); have n7_ := Aside0.mk (Kd.R_lower (Kd.R_new' (Kd.R_new' (Kd.R_new' (Kd.R_new' ho0 (Kd.R_lt (by (with_reducible repeat (first | apply Kd.R_alloc | apply Kd.R_drewN | apply Kd.R_drew)); exact HO_6.out))) (Kd.R_lt (by (with_reducible repeat (first | apply Kd.R_alloc | apply Kd.R_drewN | apply Kd.R_drew)); exact HO_8.out))) (Kd.R_lt (by (with_reducible repeat (first | apply Kd.R_alloc | apply Kd.R_drewN | apply Kd.R_drew)); exact HO363.out))) (Kd.R_lt (by (with_reducible repeat (first | apply Kd.R_alloc | apply Kd.R_drewN | apply Kd.R_drew)); exact HO374.out))) (below_size bz_)); have n8_ := bl_ hb; clear HO_5; clear HO_6; clear HO_8; clear HO363; clear HO374; clear HO385; clear HO396; clear HB; have HO_5 := n0_; have HO_6 := n1_; have HO_8 := n2_; have HO363 := n3_; have HO374 := n4_; have HO385 := n5_; have HO396 := n6_; have HO400 := n7_; have HB := n8_; clear n0_ n1_ n2_ n3_ n4_ n5_ n6_ n7_ n8_; (try clear hb); (try clear hb2); (try clear hk); (try clear hi); (try clear ho0); obtain ⟨Ao66, co66, eo66⟩ := Kd.R_slice HO374.out; subst eo66; obtain ⟨Ao67, co67, eo67⟩ := Kd.R_slice HO400.out; subst eo67) | ((with_reducible refine gate_callee (f := 13) rfl ?_); refine goesL_ (some 83) rfl rfl Try.func13 (by kernel_rfl) rfl #[.slice Ao66 t372.length co66, .slice Ao67 t398.length co67] rfl mp_ ?_; (with_reducible refine (lockgatekit_SameInts.calls kj9 _ _ t372 _ _ t398 true _ ?side1 ?side2 ?side3 ?side4 A58.out).mono ?_); (case side1 => repeat (first | exact (Kd.R_reads' HO374.out).2.2 | (with_reducible refine Kd.C_alloc ?_ _) | (with_reducible refine Kd.C_drewN ?_ _) | (with_reducible refine Kd.C_drew ?_))); (case side2 => exact (Kd.R_reads' HO374.out).2.1); (case side3 => repeat (first | exact (Kd.R_reads' HO400.out).2.2 | (with_reducible refine Kd.C_alloc ?_ _) | (with_reducible refine Kd.C_drewN ?_ _) | (with_reducible refine Kd.C_drew ?_))); (case side4 => exact (Kd.R_reads' HO400.out).2.1); rintro e w' ⟨rfl, ⟨nd, rfl⟩⟩; refine ⟨_, rfl, ?_⟩) | (go_at_call 21; (with_reducible refine (lockgateref06_Heads.calls kj9 _ _ l0 _ _ t355 t402 _ ?side1 ?side2 ?side3 ?side4 A60.out).mono ?_); (case side1 => repeat (first | exact (Kd.C_below HR0.out bz_) | (with_reducible refine Kd.C_alloc ?_ _) | (with_reducible refine Kd.C_drewN ?_ _) | (with_reducible refine Kd.C_drew ?_))); (case side2 => exact HC0.out); (case side3 => repeat (first | exact (Kd.R_reads' HO_8.out).2.2 | (with_reducible refine Kd.C_alloc ?_ _) | (with_reducible refine Kd.C_drewN ?_ _) | (with_reducible refine Kd.C_drew ?_))); (case side4 => exact (Kd.R_reads' HO_8.out).2.1); rintro e w68 ⟨v403, rfl, ho0, hb⟩; have n0_ := Aside0.mk (Kd.R_below (by (with_reducible repeat (first | apply Kd.R_alloc | apply Kd.R_drewN | apply Kd.R_drew)); exact HO_5.out) hb); have n1_ := Aside0.mk (Kd.R_below (by (with_reducible repeat (first | apply Kd.R_alloc | apply Kd.R_drewN | apply Kd.R_drew)); exact HO_6.out) hb); have n2_ := Aside0.mk (Kd.R_below (by (with_reducible repeat (first | apply Kd.R_alloc | apply Kd.R_drewN | apply Kd.R_drew)); exact HO_8.out) hb); have n3_ := Aside0.mk (Kd.R_below (by (with_reducible repeat (first | apply Kd.R_alloc | apply Kd.R_drewN | apply Kd.R_drew)); exact HO363.out) hb); have n4_ := Aside0.mk (Kd.R_below (by (with_reducible repeat (first | apply Kd.R_alloc | apply Kd.R_drewN | apply Kd.R_drew)); exact HO374.out) hb); have n5_ := Aside0.mk (Kd.R_elder' (by (with_reducible repeat (first | apply Kd.R_alloc | apply Kd.R_drewN | apply Kd.R_drew)); exact HO385.out) (Kd.R_base ho0) hb); have n6_ := Aside0.mk (Kd.R_elder' (by (with_reducible repeat (first | apply Kd.R_alloc | apply Kd.R_drewN | apply Kd.R_drew)); exact HO396.out) (Kd.R_base ho0) hb); have n7_ := Aside0.mk (Kd.R_below (by (with_reducible repeat (first | apply Kd.R_alloc | apply Kd.R_drewN | apply Kd.R_drew)); exact HO400.out) hb); have n8_ := Aside0.mk (Kd.R_lower (Kd.R_new' (Kd.R_new' ho0 (Kd.R_lt (by (with_reducible repeat (first | apply Kd.R_alloc | apply Kd.R_drewN | apply Kd.R_drew)); exact HO385.out))) (Kd.R_lt (by (with_reducible repeat (first | apply Kd.R_alloc | apply Kd.R_drewN | apply Kd.R_drew)); exact HO396.out))) (below_size bz_)); have n9_ := bl_ hb; clear HO_5; clear HO_6; clear HO_8; clear HO363; clear HO374; clear HO385; clear HO396; clear HO400; clear HB; have HO_5 := n0_; have HO_6 := n1_; have HO_8 := n2_; have HO363 := n3_; have HO374 := n4_; have HO385 := n5_; have HO396 := n6_; have HO400 := n7_; have HO404 := n8_; have HB := n9_; clear n0_ n1_ n2_ n3_ n4_ n5_ n6_ n7_ n8_ n9_; (try clear hb); (try clear hb2); (try clear hk); (try clear hi); (try clear ho0); obtain ⟨Ao69, co69, eo69⟩ := Kd.R_slice HO385.out; subst eo69; obtain ⟨Ao70, co70, eo70⟩ := Kd.R_slice HO404.out; subst eo70) | (go_at_call 20; (with_reducible refine (lockgatelaw06_same.calls kj9 _ _ t383 _ _ t402 true _ ?side1 ?side2 ?side3 ?side4 A61.out).mono ?_); (case side1 => repeat (first | exact (Kd.R_reads' HO385.out).2.2 | (with_reducible refine Kd.C_alloc ?_ _) | (with_reducible refine Kd.C_drewN ?_ _) | (with_reducible refine Kd.C_drew ?_))); (case side2 => exact (Kd.R_reads' HO385.out).2.1); (case side3 => repeat (first | exact (Kd.R_reads' HO404.out).2.2 | (with_reducible refine Kd.C_alloc ?_ _) | (with_reducible refine Kd.C_drewN ?_ _) | (with_reducible refine Kd.C_drew ?_))); (case side4 => exact (Kd.R_reads' HO404.out).2.1); rintro e w' ⟨rfl, ⟨nd, rfl⟩⟩) | (go_at_call 22; (with_reducible refine (lockgateref06_Reached.calls kj9 _ _ l0 _ _ t355 t406 _ ?side1 ?side2 ?side3 ?side4 A63.out).mono ?_); (case side1 => repeat (first | exact (Kd.C_below HR0.out bz_) | (with_reducible refine Kd.C_alloc ?_ _) | (with_reducible refine Kd.C_drewN ?_ _) | (with_reducible refine Kd.C_drew ?_))); (case side2 => exact HC0.out); (case side3 => repeat (first | exact (Kd.R_reads' HO_8.out).2.2 | (with_reducible refine Kd.C_alloc ?_ _) | (with_reducible refine Kd.C_drewN ?_ _) | (with_reducible refine Kd.C_drew ?_))); (case side4 => exact (Kd.R_reads' HO_8.out).2.1); rintro e w71 ⟨v407, rfl, ho0, hb⟩; have n0_ := Aside0.mk (Kd.R_below (by (with_reducible repeat (first | apply Kd.R_alloc | apply Kd.R_drewN | apply Kd.R_drew)); exact HO_5.out) hb); have n1_ := Aside0.mk (Kd.R_below (by (with_reducible repeat (first | apply Kd.R_alloc | apply Kd.R_drewN | apply Kd.R_drew)); exact HO_6.out) hb); have n2_ := Aside0.mk (Kd.R_below (by (with_reducible repeat (first | apply Kd.R_alloc | apply Kd.R_drewN | apply Kd.R_drew)); exact HO_8.out) hb); have n3_ := Aside0.mk (Kd.R_below (by (with_reducible repeat (first | apply Kd.R_alloc | apply Kd.R_drewN | apply Kd.R_drew)); exact HO363.out) hb); have n4_ := Aside0.mk (Kd.R_below (by (with_reducible repeat (first | apply Kd.R_alloc | apply Kd.R_drewN | apply Kd.R_drew)); exact HO374.out) hb); have n5_ := Aside0.mk (Kd.R_elder' (by (with_reducible repeat (first | apply Kd.R_alloc | apply Kd.R_drewN | apply Kd.R_drew)); exact HO385.out) (Kd.R_base ho0) hb); have n6_ := Aside0.mk (Kd.R_elder' (by (with_reducible repeat (first | apply Kd.R_alloc | apply Kd.R_drewN | apply Kd.R_drew)); exact HO396.out) (Kd.R_base ho0) hb); have n7_ := Aside0.mk (Kd.R_below (by (with_reducible repeat (first | apply Kd.R_alloc | apply Kd.R_drewN | apply Kd.R_drew)); exact HO400.out) hb); have n8_ := Aside0.mk (Kd.R_elder' (by (with_reducible repeat (first | apply Kd.R_alloc | apply Kd.R_drewN | apply Kd.R_drew)); exact HO404.out) (Kd.R_base ho0) hb); have n9_ := Aside0.mk (Kd.R_lower (Kd.R_new' (Kd.R_new' (Kd.R_new' ho0 (Kd.R_lt (by (with_reducible repeat (first | apply Kd.R_alloc | apply Kd.R_drewN | apply Kd.R_drew)); exact HO385.out))) (Kd.R_lt (by (with_reducible repeat (first | apply Kd.R_alloc | apply Kd.R_drewN | apply Kd.R_drew)); exact HO396.out))) (Kd.R_lt (by (with_reducible repeat (first | apply Kd.R_alloc | apply Kd.R_drewN | apply Kd.R_drew)); exact HO404.out))) (below_size bz_)); have n10_ := bl_ hb; clear HO_5; clear HO_6; clear HO_8; clear HO363; clear HO374; clear HO385; clear HO396; clear HO400; clear HO404; clear HB; have HO_5 := n0_; have HO_6 := n1_; have HO_8 := n2_; have HO363 := n3_; have HO374 := n4_; have HO385 := n5_; have HO396 := n6_; have HO400 := n7_; have HO404 := n8_; have HO408 := n9_; have HB := n10_; clear n0_ n1_ n2_ n3_ n4_ n5_ n6_ n7_ n8_ n9_ n10_; (try clear hb); (try clear hb2); (try clear hk); (try clear hi); (try clear ho0); obtain ⟨Ao72, co72, eo72⟩ := Kd.R_slice HO396.out; subst eo72; obtain ⟨Ao73, co73, eo73⟩ := Kd.R_slice HO408.out; subst eo73) | (go_at_call 20; (with_reducible refine (lockgatelaw06_same.calls kj9 _ _ t394 _ _ t406 t409 _ ?side1 ?side2 ?side3 ?side4 A64.out).mono ?_); (case side1 => repeat (first | exact (Kd.R_reads' HO396.out).2.2 | (with_reducible refine Kd.C_alloc ?_ _) | (with_reducible refine Kd.C_drewN ?_ _) | (with_reducible refine Kd.C_drew ?_))); (case side2 => exact (Kd.R_reads' HO396.out).2.1); (case side3 => repeat (first | exact (Kd.R_reads' HO408.out).2.2 | (with_reducible refine Kd.C_alloc ?_ _) | (with_reducible refine Kd.C_drewN ?_ _) | (with_reducible refine Kd.C_drew ?_))); (case side4 => exact (Kd.R_reads' HO408.out).2.1); rintro e w' ⟨rfl, ⟨nd, rfl⟩⟩))
               go_meet
               case rel => exact ⟨_, (!t409), (by first | rfl | (simp; done) | (simp [*]; done)), H', ⟨by have := HJ9.out; first | omega | exact Nat.le_refl _⟩, ⟨by (with_reducible repeat (first | apply Kd.R_alloc | apply Kd.R_drewN | apply Kd.R_drew)); exact HO_5.out⟩, ⟨by (with_reducible repeat (first | apply Kd.R_alloc | apply Kd.R_drewN | apply Kd.R_drew)); exact Kd.R_mono HO_8.out (fun _ hk => ⟨hk.1.2.1, hk.1.2.2⟩)⟩, ⟨by (with_reducible repeat (first | apply Kd.R_alloc | apply Kd.R_drewN | apply Kd.R_drew)); exact Kd.R_mono HO363.out (fun _ hk => ⟨hk.1.2.1, hk.1.2.2⟩)⟩, ⟨by (with_reducible repeat (first | apply Kd.R_alloc | apply Kd.R_drewN | apply Kd.R_drew)); exact Kd.R_mono HO374.out (fun _ hk => ⟨hk.1.2.1, hk.1.2.2⟩)⟩, ⟨bz_⟩⟩
              ·replace c62 := Bool.eq_false_iff.mpr c62
               subst c62
               have H1 : (lockgatelaw06_FlowTells.j1 kj9 l0 t344 t355 t361 t372 true) = some r := by rw [if_neg (show ¬ (false = true) by decide)] at H; exact H
               clear H
               have H := H1
               clear H1
               exfalso
               cases kj9 with
               | zero => rw [lockgatelaw06_FlowTells.j1] at H; exact nomatch H
               | succ q_ => rw [lockgatelaw06_FlowTells.j1, if_pos rfl] at H; exact absurd ((Option.some.inj H).trans HRT.out) (by decide)
             ·replace c59 := Bool.eq_false_iff.mpr c59
              subst c59
              have H1 : (lockgatelaw06_FlowTells.j1 kj9 l0 t344 t355 t361 t372 true) = some r := by rw [if_neg (show ¬ (false = true) by decide)] at H; exact H
              clear H
              have H := H1
              clear H1
              exfalso
              cases kj9 with
              | zero => rw [lockgatelaw06_FlowTells.j1] at H; exact nomatch H
              | succ q_ => rw [lockgatelaw06_FlowTells.j1, if_pos rfl] at H; exact absurd ((Option.some.inj H).trans HRT.out) (by decide)
            case rest =>
             clear HC39
             try clear c1
             try clear p2
             try clear q4
             try clear c5
             try clear q5
             try clear c6
             try clear c13
             try clear c15
             try clear c16
             try clear c17
             try clear c18
             try clear c19
             try clear q48
             try clear q49
             try clear q52
             try clear q53
             try clear c59
             try clear c62
             try clear q48
             try clear q49
             try clear q52
             try clear q53
             obtain ⟨kq, x100_38, rfl, HA, HJ38, HO_5, HO_8, HO_10, HO_11, HB⟩ := hcut
             cases kq with
             | zero => exact absurd HA.out (by simp [lockgatelaw06_FlowTells.j1])
             | succ kj38 =>
              have H := HA.out
              clear HA
              simp only [lockgatelaw06_FlowTells.j1] at H
              by_cases c74 : x100_38 = true
              ·subst c74
               have H1 : (some false) = some r := by rw [if_pos rfl] at H; exact H
               clear H
               have H := H1
               clear H1
               exact absurd ((Option.some.inj H).trans HRT.out) (by decide)
              ·replace c74 := Bool.eq_false_iff.mpr c74
               subst c74
               have H1 : ((lockgatekit_SpoilInts.f kj38 t372).bind fun t410 => (lockgatelaw06_FlowTells.l0 kj38 l0 t344 t355 t361 0)) = some r := by rw [if_neg (show ¬ (false = true) by decide)] at H; exact H
               clear H
               have H := H1
               clear H1
               replace H := Option.bind_eq_some_iff.mp H
               obtain ⟨t410, A750, H⟩ := H
               replace H : (lockgatelaw06_FlowTells.l0 kj38 l0 t344 t355 t361 0) = some r := H
               have A75 := Aside0.mk A750
               clear A750
               have H' := Aside0.mk H
               clear H
               obtain ⟨Ao76, co76, eo76⟩ := Kd.R_slice HO_11.out
               subst eo76
               go_wp2_with (first | ((with_reducible refine gate_callee (f := 18) rfl ?_); refine goesL_ (some 102) rfl rfl Try.func18 (by kernel_rfl) rfl #[.slice Ao76 t372.length co76] rfl mp_ ?_; (with_reducible refine (lockgatekit_SpoilInts.calls kj38 (fun k_ => some k_ = (.slice Ao76 t372.length co76 : Value).ownBlock) (.slice Ao76 t372.length co76) t372 t410 w _ ?side1 ?side2 A75.out).mono ?_); (case side1 => repeat (first | (with_reducible first | exact HB.out | apply lA_ | apply lN_ | apply lD_) | exact HB.out)); (case side2 => exact Kd.R_tight rfl HO_11.out); rintro e w77 ⟨rfl, hy0, hb, hkp⟩; refine ⟨_, rfl, ?_⟩; have n0_ := Aside0.mk (Kd.R_mono (ok' := fun k_ => True) (Kd.R_keptB ((Kd.R_apart' HO_5.out (Kd.R_typed HO_11.out) (by decide))) hkp (fun k_ hk_ hs_ => (hk_.2) hs_)) (fun k_ hk_ => trivial)); have n1_ := Aside0.mk (Kd.R_mono (ok' := fun k_ => some k_ ≠ (.slice Ao45 t361.length co45 : Value).ownBlock ∧ some k_ ≠ (.slice Ao76 t372.length co76 : Value).ownBlock) (Kd.R_keptB (HO_8.out) hkp (fun k_ hk_ hs_ => (hk_.2) hs_)) (fun k_ hk_ => ⟨hk_.1.1, hk_.1.2⟩)); have n2_ := Aside0.mk (Kd.R_mono (ok' := fun k_ => some k_ ≠ (.slice Ao40 t355.length co40 : Value).ownBlock ∧ some k_ ≠ (.slice Ao76 t372.length co76 : Value).ownBlock) (Kd.R_keptB (HO_10.out) hkp (fun k_ hk_ hs_ => (hk_.2) hs_)) (fun k_ hk_ => ⟨hk_.1.1, hk_.1.2⟩)); have n3_ := Aside0.mk (Kd.R_reok rfl hy0 (fun k_ e_ => HO_11.out.1 k_ e_)); have n4_ := Aside0.mk (hb); clear HO_5; clear HO_8; clear HO_10; clear HO_11; clear HB; have HO_5 := n0_; have HO_8 := n1_; have HO_10 := n2_; have HO_11 := n3_; have HB := n4_; clear n0_ n1_ n2_ n3_ n4_; (try clear hb); (try clear hkp); (try clear hy0)))
               go_loopg [14] kj38 (fun kq v14 w' => ∃ (x14_3 : Int), v14 = .int .i64 x14_3 ∧ Aside0 (lockgatelaw06_FlowTells.l0 kq l0 t344 t355 t361 x14_3 = some r) ∧ Aside0 (kq ≤ kj38) ∧ Aside0 (Kd.R k42 42 w' w.heap.size (fun _ => True) (.slice Ao13 t344.length co13) t344) ∧ Aside0 (Kd.R (Kd.int .i64) 3 w' w.heap.size (fun k_ => some k_ ≠ ((.slice Ao45 t361.length co45) : Value).ownBlock) (.slice Ao40 t355.length co40) t355) ∧ Aside0 (Kd.R (Kd.int .i64) 3 w' w.heap.size (fun k_ => some k_ ≠ ((.slice Ao40 t355.length co40) : Value).ownBlock) (.slice Ao45 t361.length co45) t361) ∧ Aside0 (Below w.heap.size w w'))
               case atStart => exact ⟨(0), (by first | rfl | (simp; done) | (simp [*]; done)), H', ⟨Nat.le_refl _⟩, ⟨by (with_reducible repeat (first | apply Kd.R_alloc | apply Kd.R_drewN | apply Kd.R_drew)); exact HO_5.out⟩, ⟨by (with_reducible repeat (first | apply Kd.R_alloc | apply Kd.R_drewN | apply Kd.R_drew)); exact Kd.R_mono HO_8.out (fun _ hk => hk.1)⟩, ⟨by (with_reducible repeat (first | apply Kd.R_alloc | apply Kd.R_drewN | apply Kd.R_drew)); exact Kd.R_mono HO_10.out (fun _ hk => hk.1)⟩, ⟨bz_⟩⟩
               case round =>
                clear H'
                try clear c1
                try clear p2
                try clear q4
                try clear c5
                try clear q5
                try clear c6
                try clear c7
                try clear c13
                try clear c15
                try clear c16
                try clear c17
                try clear c18
                try clear c19
                try clear q48
                try clear q49
                try clear q52
                try clear q53
                try clear c59
                try clear c62
                try clear c74
                try clear p2
                try clear q4
                try clear q48
                try clear q49
                try clear q5
                try clear q52
                try clear q53
                obtain ⟨x14_3, rfl, HA, HK3, HO_5, HO_8, HO_10, HB⟩ := hrel
                cases gk with
                | zero => exact absurd HA.out (by simp [lockgatelaw06_FlowTells.l0])
                | succ k3 =>
                 have H := HA.out
                 clear HA
                 simp only [lockgatelaw06_FlowTells.l0] at H
                 by_cases c78 : x14_3 < (l0.length : Int)
                 ·rw [if_pos c78] at H
                  have c78b0 : decide (x14_3 < (l0.length : Int)) = true := decide_eq_true c78
                  clear c78
                  replace H := Option.bind_eq_some_iff.mp H
                  obtain ⟨t414, A790, H⟩ := H
                  replace H : ((lockgateref06_Next.f k3 l0 t355 x14_3).bind fun t417 => ((lockgatekit_SameInts.f k3 t414 t417).bind fun t420 => (if t420 = true then (lockgatelaw06_FlowTells.l0 k3 l0 t344 t355 t361 (wrap64 (x14_3 + 1))) else (some false)))) = some r := H
                  have A79 := Aside0.mk A790
                  clear A790
                  replace H := Option.bind_eq_some_iff.mp H
                  obtain ⟨t417, A800, H⟩ := H
                  replace H : ((lockgatekit_SameInts.f k3 t414 t417).bind fun t420 => (if t420 = true then (lockgatelaw06_FlowTells.l0 k3 l0 t344 t355 t361 (wrap64 (x14_3 + 1))) else (some false))) = some r := H
                  have A80 := Aside0.mk A800
                  clear A800
                  replace H := Option.bind_eq_some_iff.mp H
                  obtain ⟨t420, A810, H⟩ := H
                  replace H : (if t420 = true then (lockgatelaw06_FlowTells.l0 k3 l0 t344 t355 t361 (wrap64 (x14_3 + 1))) else (some false)) = some r := H
                  have A81 := Aside0.mk A810
                  clear A810
                  by_cases c82 : t420 = true
                  ·subst c82
                   have H1 : (lockgatelaw06_FlowTells.l0 k3 l0 t344 t355 t361 (wrap64 (x14_3 + 1))) = some r := by rw [if_pos rfl] at H; exact H
                   clear H
                   have H := H1
                   clear H1
                   have H' := Aside0.mk H
                   clear H
                   go_wp2_with (first | ((with_reducible refine gate_callee (f := 15) rfl ?_); refine goesL_ (some 112) rfl rfl Try.func15 (by kernel_rfl) rfl #[.slice A0 l0.length c0, .slice Ao40 t355.length co40, .int .i64 x14_3] rfl mp_ ?_; (with_reducible refine (flow_Next.calls k3 _ _ l0 _ _ t355 x14_3 t414 _ ?side1 ?side2 ?side3 ?side4 A79.out).mono ?_); (case side1 => repeat (first | exact (Kd.C_below HR0.out HB.out) | (with_reducible refine Kd.C_alloc ?_ _) | (with_reducible refine Kd.C_drewN ?_ _) | (with_reducible refine Kd.C_drew ?_))); (case side2 => exact HC0.out); (case side3 => repeat (first | exact (Kd.R_reads' HO_8.out).2.2 | (with_reducible refine Kd.C_alloc ?_ _) | (with_reducible refine Kd.C_drewN ?_ _) | (with_reducible refine Kd.C_drew ?_))); (case side4 => exact (Kd.R_reads' HO_8.out).2.1); rintro e w83 ⟨v415, rfl, ho0, hb⟩; refine ⟨_, rfl, ?_⟩; have n0_ := Aside0.mk (Kd.R_below (by (with_reducible repeat (first | apply Kd.R_alloc | apply Kd.R_drewN | apply Kd.R_drew)); exact HO_5.out) hb); have n1_ := Aside0.mk (Kd.R_elder' (by (with_reducible repeat (first | apply Kd.R_alloc | apply Kd.R_drewN | apply Kd.R_drew)); exact HO_8.out) (Kd.R_base ho0) hb); have n2_ := Aside0.mk (Kd.R_elder' (by (with_reducible repeat (first | apply Kd.R_alloc | apply Kd.R_drewN | apply Kd.R_drew)); exact HO_10.out) (Kd.R_base ho0) hb); have n3_ := Aside0.mk (Kd.R_lower (Kd.R_new' (Kd.R_new' ho0 (Kd.R_lt (by (with_reducible repeat (first | apply Kd.R_alloc | apply Kd.R_drewN | apply Kd.R_drew)); exact HO_8.out))) (Kd.R_lt (by (with_reducible repeat (first | apply Kd.R_alloc | apply Kd.R_drewN | apply Kd.R_drew)); exact HO_10.out))) (below_size bz_)); have n4_ := bl_ hb; clear HO_5; clear HO_8; clear HO_10; clear HB; have HO_5 := n0_; have HO_8 := n1_; have HO_10 := n2_; have HO416 := n3_; have HB := n4_; clear n0_ n1_ n2_ n3_ n4_; (try clear hb); (try clear hb2); (try clear hk); (try clear hi); (try clear ho0)) | ((with_reducible refine gate_callee (f := 19) rfl ?_); refine goesL_ (some 116) rfl rfl Try.func19 (by kernel_rfl) rfl #[.slice A0 l0.length c0, .slice Ao40 t355.length co40, .int .i64 x14_3] rfl mp_ ?_; (with_reducible refine (lockgateref06_Next.calls k3 _ _ l0 _ _ t355 x14_3 t417 _ ?side1 ?side2 ?side3 ?side4 A80.out).mono ?_); (case side1 => repeat (first | exact (Kd.C_below HR0.out HB.out) | (with_reducible refine Kd.C_alloc ?_ _) | (with_reducible refine Kd.C_drewN ?_ _) | (with_reducible refine Kd.C_drew ?_))); (case side2 => exact HC0.out); (case side3 => repeat (first | exact (Kd.R_reads' HO_8.out).2.2 | (with_reducible refine Kd.C_alloc ?_ _) | (with_reducible refine Kd.C_drewN ?_ _) | (with_reducible refine Kd.C_drew ?_))); (case side4 => exact (Kd.R_reads' HO_8.out).2.1); rintro e w84 ⟨v418, rfl, ho0, hb⟩; refine ⟨_, rfl, ?_⟩; have n0_ := Aside0.mk (Kd.R_below (by (with_reducible repeat (first | apply Kd.R_alloc | apply Kd.R_drewN | apply Kd.R_drew)); exact HO_5.out) hb); have n1_ := Aside0.mk (Kd.R_elder' (by (with_reducible repeat (first | apply Kd.R_alloc | apply Kd.R_drewN | apply Kd.R_drew)); exact HO_8.out) (Kd.R_base ho0) hb); have n2_ := Aside0.mk (Kd.R_elder' (by (with_reducible repeat (first | apply Kd.R_alloc | apply Kd.R_drewN | apply Kd.R_drew)); exact HO_10.out) (Kd.R_base ho0) hb); have n3_ := Aside0.mk (Kd.R_elder' (by (with_reducible repeat (first | apply Kd.R_alloc | apply Kd.R_drewN | apply Kd.R_drew)); exact HO416.out) (Kd.R_base ho0) hb); have n4_ := Aside0.mk (Kd.R_lower (Kd.R_new' (Kd.R_new' (Kd.R_new' ho0 (Kd.R_lt (by (with_reducible repeat (first | apply Kd.R_alloc | apply Kd.R_drewN | apply Kd.R_drew)); exact HO_8.out))) (Kd.R_lt (by (with_reducible repeat (first | apply Kd.R_alloc | apply Kd.R_drewN | apply Kd.R_drew)); exact HO_10.out))) (Kd.R_lt (by (with_reducible repeat (first | apply Kd.R_alloc | apply Kd.R_drewN | apply Kd.R_drew)); exact HO416.out))) (below_size bz_)); have n5_ := bl_ hb; clear HO_5; clear HO_8; clear HO_10; clear HO416; clear HB; have HO_5 := n0_; have HO_8 := n1_; have HO_10 := n2_; have HO416 := n3_; have HO419 := n4_; have HB := n5_; clear n0_ n1_ n2_ n3_ n4_ n5_; (try clear hb); (try clear hb2); (try clear hk); (try clear hi); (try clear ho0); obtain ⟨Ao85, co85, eo85⟩ := Kd.R_slice HO416.out; subst eo85; obtain ⟨Ao86, co86, eo86⟩ := Kd.R_slice HO419.out; subst eo86) | ((with_reducible refine gate_callee (f := 13) rfl ?_); refine goesL_ (some 117) rfl rfl Try.func13 (by kernel_rfl) rfl #[.slice Ao85 t414.length co85, .slice Ao86 t417.length co86] rfl mp_ ?_; (with_reducible refine (lockgatekit_SameInts.calls k3 _ _ t414 _ _ t417 true _ ?side1 ?side2 ?side3 ?side4 A81.out).mono ?_); (case side1 => repeat (first | exact (Kd.R_reads' HO416.out).2.2 | (with_reducible refine Kd.C_alloc ?_ _) | (with_reducible refine Kd.C_drewN ?_ _) | (with_reducible refine Kd.C_drew ?_))); (case side2 => exact (Kd.R_reads' HO416.out).2.1); (case side3 => repeat (first | exact (Kd.R_reads' HO419.out).2.2 | (with_reducible refine Kd.C_alloc ?_ _) | (with_reducible refine Kd.C_drewN ?_ _) | (with_reducible refine Kd.C_drew ?_))); (case side4 => exact (Kd.R_reads' HO419.out).2.1); rintro e w' ⟨rfl, ⟨nd, rfl⟩⟩; refine ⟨_, rfl, ?_⟩))
                   go_roundg k3
                   case measure => have := HJ9.out; have := HJ38.out; have := HK3.out; omega
                   case rel => exact ⟨(wrap64 (x14_3 + 1)), (by first | rfl | (simp; done) | (simp [*]; done)), H', ⟨by have := HJ9.out; have := HJ38.out; have := HK3.out; omega⟩, ⟨by (with_reducible repeat (first | apply Kd.R_alloc | apply Kd.R_drewN | apply Kd.R_drew)); exact HO_5.out⟩, ⟨by (with_reducible repeat (first | apply Kd.R_alloc | apply Kd.R_drewN | apply Kd.R_drew)); exact Kd.R_mono HO_8.out (fun _ hk => hk.1.1)⟩, ⟨by (with_reducible repeat (first | apply Kd.R_alloc | apply Kd.R_drewN | apply Kd.R_drew)); exact Kd.R_mono HO_10.out (fun _ hk => hk.1.1)⟩, ⟨bz_⟩⟩
                  ·replace c82 := Bool.eq_false_iff.mpr c82
                   subst c82
                   have H1 : (some false) = some r := by rw [if_neg (show ¬ (false = true) by decide)] at H; exact H
                   clear H
                   have H := H1
                   clear H1
                   exact absurd ((Option.some.inj H).trans HRT.out) (by decide)
                 ·rw [if_neg c78] at H
                  have c78b0 : decide (x14_3 < (l0.length : Int)) = false := decide_eq_false c78
                  clear c78
                  replace H := Option.bind_eq_some_iff.mp H
                  obtain ⟨t411, A870, H⟩ := H
                  replace H : (if t411 = true then ((lockgatekit_KeptInts.f k3 t361 t355).bind fun t412 => (if t412 = true then ((lockgatelaw06_works.f k3).bind fun t413 => (some t413)) else (some false))) else (some false)) = some r := H
                  have A87 := Aside0.mk A870
                  clear A870
                  by_cases c88 : t411 = true
                  ·subst c88
                   have H1 : ((lockgatekit_KeptInts.f k3 t361 t355).bind fun t412 => (if t412 = true then ((lockgatelaw06_works.f k3).bind fun t413 => (some t413)) else (some false))) = some r := by rw [if_pos rfl] at H; exact H
                   clear H
                   have H := H1
                   clear H1
                   replace H := Option.bind_eq_some_iff.mp H
                   obtain ⟨t412, A890, H⟩ := H
                   replace H : (if t412 = true then ((lockgatelaw06_works.f k3).bind fun t413 => (some t413)) else (some false)) = some r := H
                   have A89 := Aside0.mk A890
                   clear A890
                   by_cases c90 : t412 = true
                   ·subst c90
                    have H1 : ((lockgatelaw06_works.f k3).bind fun t413 => (some t413)) = some r := by rw [if_pos rfl] at H; exact H
                    clear H
                    have H := H1
                    clear H1
                    replace H := Option.bind_eq_some_iff.mp H
                    obtain ⟨t413, A910, H⟩ := H
                    replace H : (some t413) = some r := H
                    have A91 := Aside0.mk A910
                    clear A910
                    obtain rfl := Option.some.inj H
                    go_wp2_with (first | ((with_reducible refine gate_callee (f := 23) rfl ?_); refine goesL_ (some 121) rfl rfl Try.func23 (by kernel_rfl) rfl #[.slice Ao13 t344.length co13, .slice A0 l0.length c0] rfl mp_ ?_; (with_reducible refine (lockgatekit_KeptInsns.calls k3 _ _ t344 _ _ l0 true _ ?side1 ?side2 ?side3 ?side4 A87.out).mono ?_); (case side1 => repeat (first | exact (Kd.R_reads' HO_5.out).2.2 | (with_reducible refine Kd.C_alloc ?_ _) | (with_reducible refine Kd.C_drewN ?_ _) | (with_reducible refine Kd.C_drew ?_))); (case side2 => exact (Kd.R_reads' HO_5.out).2.1); (case side3 => repeat (first | exact (Kd.C_below HR0.out HB.out) | (with_reducible refine Kd.C_alloc ?_ _) | (with_reducible refine Kd.C_drewN ?_ _) | (with_reducible refine Kd.C_drew ?_))); (case side4 => exact HC0.out); rintro e w92 ⟨rfl, hb⟩; refine ⟨_, rfl, ?_⟩; replace HO_5 := Aside0.mk (Kd.R_below (by (with_reducible repeat (first | apply Kd.R_alloc | apply Kd.R_drewN | apply Kd.R_drew)); exact HO_5.out) hb); replace HO_8 := Aside0.mk (Kd.R_below (by (with_reducible repeat (first | apply Kd.R_alloc | apply Kd.R_drewN | apply Kd.R_drew)); exact HO_8.out) hb); replace HO_10 := Aside0.mk (Kd.R_below (by (with_reducible repeat (first | apply Kd.R_alloc | apply Kd.R_drewN | apply Kd.R_drew)); exact HO_10.out) hb); replace HB := bl_ hb; (try clear hb); (try clear hb2); (try clear hk); (try clear hi)) | (go_at_call 24; (with_reducible refine (lockgatekit_KeptInts.calls k3 _ _ t361 _ _ t355 true _ ?side1 ?side2 ?side3 ?side4 A89.out).mono ?_); (case side1 => repeat (first | exact (Kd.R_reads' HO_10.out).2.2 | (with_reducible refine Kd.C_alloc ?_ _) | (with_reducible refine Kd.C_drewN ?_ _) | (with_reducible refine Kd.C_drew ?_))); (case side2 => exact (Kd.R_reads' HO_10.out).2.1); (case side3 => repeat (first | exact (Kd.R_reads' HO_8.out).2.2 | (with_reducible refine Kd.C_alloc ?_ _) | (with_reducible refine Kd.C_drewN ?_ _) | (with_reducible refine Kd.C_drew ?_))); (case side4 => exact (Kd.R_reads' HO_8.out).2.1); rintro e w' ⟨rfl, ⟨nd, rfl⟩⟩) | (go_at_call 9; (with_reducible refine (lockgatelaw06_works.calls k3  t413 _ A91.out).mono ?_); rintro e w93 ⟨rfl, hb⟩; replace HO_5 := Aside0.mk (Kd.R_below (by (with_reducible repeat (first | apply Kd.R_alloc | apply Kd.R_drewN | apply Kd.R_drew)); exact HO_5.out) hb); replace HO_8 := Aside0.mk (Kd.R_below (by (with_reducible repeat (first | apply Kd.R_alloc | apply Kd.R_drewN | apply Kd.R_drew)); exact HO_8.out) hb); replace HO_10 := Aside0.mk (Kd.R_below (by (with_reducible repeat (first | apply Kd.R_alloc | apply Kd.R_drewN | apply Kd.R_drew)); exact HO_10.out) hb); replace HB := bl_ hb; (try clear hb); (try clear hb2); (try clear hk); (try clear hi)))
                    go_ret
                    exact ⟨vv_, bz_⟩
                   ·replace c90 := Bool.eq_false_iff.mpr c90
                    subst c90
                    have H1 : (some false) = some r := by rw [if_neg (show ¬ (false = true) by decide)] at H; exact H
                    clear H
                    have H := H1
                    clear H1
                    exact absurd ((Option.some.inj H).trans HRT.out) (by decide)
                  ·replace c88 := Bool.eq_false_iff.mpr c88
                   subst c88
                   have H1 : (some false) = some r := by rw [if_neg (show ¬ (false = true) by decide)] at H; exact H
                   clear H
                   have H := H1
                   clear H1
                   exact absurd ((Option.some.inj H).trans HRT.out) (by decide)
           ·rw [if_neg c26] at H
            exact absurd H (by simp)
          ·rw [if_neg c25] at H
           exact absurd H (by simp)
         ·rw [if_neg c24] at H
          exact absurd H (by simp)
        ·rw [if_neg c23] at H
         exact absurd H (by simp)
       ·rw [if_neg c21] at H
        have c21b0 : (t352 == 0) = false := beq_eq_false_iff_ne.mpr c21
        have c21b1 : (t352 != 0) = true := bne_iff_ne.mpr c21
        replace H := Option.bind_eq_some_iff.mp H
        obtain ⟨t360, A940, H⟩ := H
        replace H : (some t360) = some r := H
        have A94 := Aside0.mk A940
        clear A940
        obtain rfl := Option.some.inj H
        go_wp2_with (first | ((with_reducible refine gate_callee (f := 9) rfl ?_); refine gM_ 45 Try.func9 (lockgatelaw06_works.calls kj9  t360 _ A94.out) ?_; intro w95 hb; replace HO_5 := Aside0.mk (Kd.R_below (by (with_reducible repeat (first | apply Kd.R_alloc | apply Kd.R_drewN | apply Kd.R_drew)); exact HO_5.out) hb); replace HO_6 := Aside0.mk (Kd.R_below (by (with_reducible repeat (first | apply Kd.R_alloc | apply Kd.R_drewN | apply Kd.R_drew)); exact HO_6.out) hb); replace HO_8 := Aside0.mk (Kd.R_below (by (with_reducible repeat (first | apply Kd.R_alloc | apply Kd.R_drewN | apply Kd.R_drew)); exact HO_8.out) hb); replace HR350 := Aside0.mk (Kd.C_below (by repeat (first | (with_reducible exact HR350.out) | (with_reducible refine Kd.C_alloc ?_ _) | (with_reducible refine Kd.C_drewN ?_ _) | (with_reducible refine Kd.C_drew ?_) | exact HR350.out)) hb); replace HB := bl_ hb; (try clear hb); (try clear hb2); (try clear hk); (try clear hi)))
        go_ret
        exact ⟨vv_, bz_⟩
   ·rw [if_neg c7] at H
    exact absurd H (by simp)
  ·rw [if_neg c6] at H
   exact absurd H (by simp)
 ·replace c4 := Bool.eq_false_iff.mpr c4
  subst c4
  have H1 : ((lockgatelaw06_works.f k).bind fun t343 => (some t343)) = some r := by rw [if_neg (show ¬ (false = true) by decide)] at H; exact H
  clear H
  have H := H1
  clear H1
  replace H := Option.bind_eq_some_iff.mp H
  obtain ⟨t343, A960, H⟩ := H
  replace H : (some t343) = some r := H
  have A96 := Aside0.mk A960
  clear A960
  obtain rfl := Option.some.inj H
  go_enter Try.func3, Try.ntmps3
  go_wp2_with (first | ((with_reducible refine gate_callee (f := 8) rfl ?_); refine goesL_ (some 16) rfl rfl Try.func8 (by kernel_rfl) rfl #[.slice A0 l0.length c0] rfl mp_ ?_; (with_reducible refine (lockgatelaw06_right.calls k _ _ l0 false _ ?side1 ?side2 A3.out).mono ?_); (case side1 => repeat (first | exact HR0.out | (with_reducible refine Kd.C_alloc ?_ _) | (with_reducible refine Kd.C_drewN ?_ _) | (with_reducible refine Kd.C_drew ?_))); (case side2 => exact HC0.out); rintro e w' ⟨rfl, ⟨nd, rfl⟩⟩; refine ⟨_, rfl, ?_⟩) | ((with_reducible refine gate_callee (f := 9) rfl ?_); refine gM_ 18 Try.func9 (lockgatelaw06_works.calls k  t343 _ A96.out) ?_; intro w97 hb; replace HB := bl_ hb; (try clear hb); (try clear hb2); (try clear hk); (try clear hi)))
  go_ret
  exact ⟨vv_, bz_⟩

end Go.Proofs.Ytkcneaaoghgllaa.PA
