-- PRINTED by print.py (a twelfth state) out of the translation. Not trusted: Lean checks it.
import Derived.Test.YtnpbhippkcikoaaPA0
import Derived.Test.YtnpbhippkcikoaaSq
import Derived.Test.YtnpbhippkcikoaaPA17
namespace Go.Proofs.Ytnpbhippkcikoaa.PA
open Go.RowKit Go.Proofs.YtnpbhippkcikoaaW.PrintWords Go.Proofs.YtnpbhippkcikoaaW.PrintLast Go.Proofs.YtnpbhippkcikoaaW.PrintMore
attribute [local go_sem] max2_int min2_int max_two min_two max_three min_three max_four min_four   -- for this text's walks alone
set_option linter.unusedVariables false
set_option linter.unusedSimpArgs false

/-! ### lockgateref14_Compare: function 21 -/
mutual
def lockgateref14_Compare.j0 : Nat → Int → Bool → Int → Bool → Bool → Int → Int → Int → Int → Int → Int → Option (Bool × Int)
 | 0, _, _, _, _, _, _, _, _, _, _, _ => none
 | k + 1, x0, x1, x4, x12, x36, x286000, x286001, x286002, x287000, x287001, x287002 => if x36 = true then (some (false, 20)) else (if x286000 = 1 then (lockgateref14_Compare.j1 k x0 x1 x4 x12 (x287000 == 1) x286000 x286001 x286002 x287000 x287001 x287002) else (lockgateref14_Compare.j1 k x0 x1 x4 x12 false x286000 x286001 x286002 x287000 x287001 x287002))
def lockgateref14_Compare.j1 : Nat → Int → Bool → Int → Bool → Bool → Int → Int → Int → Int → Int → Int → Option (Bool × Int)
 | 0, _, _, _, _, _, _, _, _, _, _, _ => none
 | k + 1, x0, x1, x4, x12, x44, x286000, x286001, x286002, x287000, x287001, x287002 => if x44 = true then (some (x12, 0)) else (if x286000 = 6 then (if x287000 = 1 then (if x287001 = 0 then (lockgateref14_Compare.j2 k x0 x1 x4 true x286000 x286001 x286002 x287000 x287001 x287002) else (if x287000 = 6 then (if x286000 = 1 then (lockgateref14_Compare.j2 k x0 x1 x4 (x286001 == 0) x286000 x286001 x286002 x287000 x287001 x287002) else (lockgateref14_Compare.j2 k x0 x1 x4 false x286000 x286001 x286002 x287000 x287001 x287002)) else (lockgateref14_Compare.j2 k x0 x1 x4 false x286000 x286001 x286002 x287000 x287001 x287002))) else (if x287000 = 6 then (if x286000 = 1 then (lockgateref14_Compare.j2 k x0 x1 x4 (x286001 == 0) x286000 x286001 x286002 x287000 x287001 x287002) else (lockgateref14_Compare.j2 k x0 x1 x4 false x286000 x286001 x286002 x287000 x287001 x287002)) else (lockgateref14_Compare.j2 k x0 x1 x4 false x286000 x286001 x286002 x287000 x287001 x287002))) else (if x287000 = 6 then (if x286000 = 1 then (lockgateref14_Compare.j2 k x0 x1 x4 (x286001 == 0) x286000 x286001 x286002 x287000 x287001 x287002) else (lockgateref14_Compare.j2 k x0 x1 x4 false x286000 x286001 x286002 x287000 x287001 x287002)) else (lockgateref14_Compare.j2 k x0 x1 x4 false x286000 x286001 x286002 x287000 x287001 x287002)))
def lockgateref14_Compare.j2 : Nat → Int → Bool → Int → Bool → Int → Int → Int → Int → Int → Int → Option (Bool × Int)
 | 0, _, _, _, _, _, _, _, _, _, _ => none
 | k + 1, x0, x1, x4, x14, x286000, x286001, x286002, x287000, x287001, x287002 => if x1 = true then (if x14 = true then (lockgateref14_Compare.j3 k x0 x1 x4 x14 (x0 == 1) x286000 x286001 x286002 x287000 x287001 x287002) else (lockgateref14_Compare.j3 k x0 x1 x4 x14 false x286000 x286001 x286002 x287000 x287001 x287002)) else (lockgateref14_Compare.j3 k x0 x1 x4 x14 false x286000 x286001 x286002 x287000 x287001 x287002)
def lockgateref14_Compare.j3 : Nat → Int → Bool → Int → Bool → Bool → Int → Int → Int → Int → Int → Int → Option (Bool × Int)
 | 0, _, _, _, _, _, _, _, _, _, _, _ => none
 | k + 1, x0, x1, x4, x14, x81, x286000, x286001, x286002, x287000, x287001, x287002 => if x81 = true then (some (false, 0)) else (if x1 = true then (if x14 = true then (lockgateref14_Compare.j4 k x0 x1 x4 (x0 == 5) x286000 x286001 x286002 x287000 x287001 x287002) else (lockgateref14_Compare.j4 k x0 x1 x4 false x286000 x286001 x286002 x287000 x287001 x287002)) else (lockgateref14_Compare.j4 k x0 x1 x4 false x286000 x286001 x286002 x287000 x287001 x287002))
def lockgateref14_Compare.j4 : Nat → Int → Bool → Int → Bool → Int → Int → Int → Int → Int → Int → Option (Bool × Int)
 | 0, _, _, _, _, _, _, _, _, _, _ => none
 | k + 1, x0, x1, x4, x89, x286000, x286001, x286002, x287000, x287001, x287002 => if x89 = true then (some (true, 0)) else (if x286000 = 2 then (lockgateref14_Compare.j5 k x0 x1 x4 (wrap64 (x286001)) (wrap64 (x287001)) (x287000 == 3) x286000 x286001 x286002 x287000 x287001 x287002) else (lockgateref14_Compare.j5 k x0 x1 x4 (wrap64 (x286001)) (wrap64 (x287001)) false x286000 x286001 x286002 x287000 x287001 x287002))
def lockgateref14_Compare.j5 : Nat → Int → Bool → Int → Int → Int → Bool → Int → Int → Int → Int → Int → Int → Option (Bool × Int)
 | 0, _, _, _, _, _, _, _, _, _, _, _, _ => none
 | k + 1, x0, x1, x4, x15, x16, x103, x286000, x286001, x286002, x287000, x287001, x287002 => if x103 = true then (lockgateref14_Compare.j6 k x0 x1 x15 x4) else (if x286000 = 3 then (if x287000 = 2 then (lockgateref14_Compare.j6 k x0 x1 x4 x16) else (some (false, 21))) else (some (false, 21)))
def lockgateref14_Compare.j6 : Nat → Int → Bool → Int → Int → Option (Bool × Int)
 | 0, _, _, _, _ => none
 | k + 1, x0, x1, x15, x16 => if x1 = true then (if x0 = 2 then (some (decide (x15 > x16), 0)) else (if x0 = 3 then (some (decide (x15 ≥ x16), 0)) else (if x0 = 10 then (some (decide (x15 < x16), 0)) else (if x0 = 11 then (some (decide (x15 ≤ x16), 0)) else (some (false, 21)))))) else (some (false, 21))
end
def lockgateref14_Compare.f (k : Nat) (a0 : Int) (a1 : Bool) (a2_0 : Int) (a2_1 : Int) (a2_2 : Int) (a3_0 : Int) (a3_1 : Int) (a3_2 : Int) (a4 : Int) : Option (Bool × Int) := (lockgateref01_Jump.f k a0 a1 a2_1 a3_1).bind fun bt287 => (if bt287.2 = true then (if a2_0 = 0 then (lockgateref14_Compare.j0 k a0 a1 a4 bt287.1 true a2_0 a2_1 a2_2 a3_0 a3_1 a3_2) else (lockgateref14_Compare.j0 k a0 a1 a4 bt287.1 (a3_0 == 0) a2_0 a2_1 a2_2 a3_0 a3_1 a3_2)) else (some (false, 4)))
theorem lockgateref14_Compare.mono_l : ∀ k, (∀ y0 y1 y2 y3 y4 y5 y6 y7 y8 y9 y10, LeO (lockgateref14_Compare.j0 k y0 y1 y2 y3 y4 y5 y6 y7 y8 y9 y10) (lockgateref14_Compare.j0 (k + 1) y0 y1 y2 y3 y4 y5 y6 y7 y8 y9 y10)) ∧ (∀ y0 y1 y2 y3 y4 y5 y6 y7 y8 y9 y10, LeO (lockgateref14_Compare.j1 k y0 y1 y2 y3 y4 y5 y6 y7 y8 y9 y10) (lockgateref14_Compare.j1 (k + 1) y0 y1 y2 y3 y4 y5 y6 y7 y8 y9 y10)) ∧ (∀ y0 y1 y2 y3 y4 y5 y6 y7 y8 y9, LeO (lockgateref14_Compare.j2 k y0 y1 y2 y3 y4 y5 y6 y7 y8 y9) (lockgateref14_Compare.j2 (k + 1) y0 y1 y2 y3 y4 y5 y6 y7 y8 y9)) ∧ (∀ y0 y1 y2 y3 y4 y5 y6 y7 y8 y9 y10, LeO (lockgateref14_Compare.j3 k y0 y1 y2 y3 y4 y5 y6 y7 y8 y9 y10) (lockgateref14_Compare.j3 (k + 1) y0 y1 y2 y3 y4 y5 y6 y7 y8 y9 y10)) ∧ (∀ y0 y1 y2 y3 y4 y5 y6 y7 y8 y9, LeO (lockgateref14_Compare.j4 k y0 y1 y2 y3 y4 y5 y6 y7 y8 y9) (lockgateref14_Compare.j4 (k + 1) y0 y1 y2 y3 y4 y5 y6 y7 y8 y9)) ∧ (∀ y0 y1 y2 y3 y4 y5 y6 y7 y8 y9 y10 y11, LeO (lockgateref14_Compare.j5 k y0 y1 y2 y3 y4 y5 y6 y7 y8 y9 y10 y11) (lockgateref14_Compare.j5 (k + 1) y0 y1 y2 y3 y4 y5 y6 y7 y8 y9 y10 y11)) ∧ (∀ y0 y1 y2 y3, LeO (lockgateref14_Compare.j6 k y0 y1 y2 y3) (lockgateref14_Compare.j6 (k + 1) y0 y1 y2 y3))
 | 0 => ⟨fun _ _ _ _ _ _ _ _ _ _ _ r h => by simp [lockgateref14_Compare.j0] at h, fun _ _ _ _ _ _ _ _ _ _ _ r h => by simp [lockgateref14_Compare.j1] at h, fun _ _ _ _ _ _ _ _ _ _ r h => by simp [lockgateref14_Compare.j2] at h, fun _ _ _ _ _ _ _ _ _ _ _ r h => by simp [lockgateref14_Compare.j3] at h, fun _ _ _ _ _ _ _ _ _ _ r h => by simp [lockgateref14_Compare.j4] at h, fun _ _ _ _ _ _ _ _ _ _ _ _ r h => by simp [lockgateref14_Compare.j5] at h, fun _ _ _ _ r h => by simp [lockgateref14_Compare.j6] at h⟩
 | k + 1 => by
  obtain ⟨ih0, ih1, ih2, ih3, ih4, ih5, ih6⟩ := lockgateref14_Compare.mono_l k
  refine ⟨?_, ?_, ?_, ?_, ?_, ?_, ?_⟩
  ·intro y0 y1 y2 y3 y4 y5 y6 y7 y8 y9 y10
   unfold lockgateref14_Compare.j0
   repeat' first
   | (with_reducible exact ih0 _ _ _ _ _ _ _ _ _ _ _)
   | (with_reducible exact ih1 _ _ _ _ _ _ _ _ _ _ _)
   | (with_reducible exact ih2 _ _ _ _ _ _ _ _ _ _)
   | (with_reducible exact ih3 _ _ _ _ _ _ _ _ _ _ _)
   | (with_reducible exact ih4 _ _ _ _ _ _ _ _ _ _)
   | (with_reducible exact ih5 _ _ _ _ _ _ _ _ _ _ _ _)
   | (with_reducible exact ih6 _ _ _ _)
   | (with_reducible exact lockgateref01_Jump.mono _ _ _ _ _)
   | (with_reducible exact LeO.refl _)
   | (with_reducible exact LeO.none _)
   | (with_reducible refine LeO.ite ?_ ?_)
   | (with_reducible refine LeO.bind ?_ (fun _ => ?_))
   | exact ih0 _ _ _ _ _ _ _ _ _ _ _
   | exact ih1 _ _ _ _ _ _ _ _ _ _ _
   | exact ih2 _ _ _ _ _ _ _ _ _ _
   | exact ih3 _ _ _ _ _ _ _ _ _ _ _
   | exact ih4 _ _ _ _ _ _ _ _ _ _
   | exact ih5 _ _ _ _ _ _ _ _ _ _ _ _
   | exact ih6 _ _ _ _
   | exact lockgateref01_Jump.mono _ _ _ _ _
   | exact LeO.none _
   | refine LeO.ite ?_ ?_
   | refine LeO.bind ?_ (fun _ => ?_)
  ·intro y0 y1 y2 y3 y4 y5 y6 y7 y8 y9 y10
   unfold lockgateref14_Compare.j1
   repeat' first
   | (with_reducible exact ih0 _ _ _ _ _ _ _ _ _ _ _)
   | (with_reducible exact ih1 _ _ _ _ _ _ _ _ _ _ _)
   | (with_reducible exact ih2 _ _ _ _ _ _ _ _ _ _)
   | (with_reducible exact ih3 _ _ _ _ _ _ _ _ _ _ _)
   | (with_reducible exact ih4 _ _ _ _ _ _ _ _ _ _)
   | (with_reducible exact ih5 _ _ _ _ _ _ _ _ _ _ _ _)
   | (with_reducible exact ih6 _ _ _ _)
   | (with_reducible exact lockgateref01_Jump.mono _ _ _ _ _)
   | (with_reducible exact LeO.refl _)
   | (with_reducible exact LeO.none _)
   | (with_reducible refine LeO.ite ?_ ?_)
   | (with_reducible refine LeO.bind ?_ (fun _ => ?_))
   | exact ih0 _ _ _ _ _ _ _ _ _ _ _
   | exact ih1 _ _ _ _ _ _ _ _ _ _ _
   | exact ih2 _ _ _ _ _ _ _ _ _ _
   | exact ih3 _ _ _ _ _ _ _ _ _ _ _
   | exact ih4 _ _ _ _ _ _ _ _ _ _
   | exact ih5 _ _ _ _ _ _ _ _ _ _ _ _
   | exact ih6 _ _ _ _
   | exact lockgateref01_Jump.mono _ _ _ _ _
   | exact LeO.none _
   | refine LeO.ite ?_ ?_
   | refine LeO.bind ?_ (fun _ => ?_)
  ·intro y0 y1 y2 y3 y4 y5 y6 y7 y8 y9
   unfold lockgateref14_Compare.j2
   repeat' first
   | (with_reducible exact ih0 _ _ _ _ _ _ _ _ _ _ _)
   | (with_reducible exact ih1 _ _ _ _ _ _ _ _ _ _ _)
   | (with_reducible exact ih2 _ _ _ _ _ _ _ _ _ _)
   | (with_reducible exact ih3 _ _ _ _ _ _ _ _ _ _ _)
   | (with_reducible exact ih4 _ _ _ _ _ _ _ _ _ _)
   | (with_reducible exact ih5 _ _ _ _ _ _ _ _ _ _ _ _)
   | (with_reducible exact ih6 _ _ _ _)
   | (with_reducible exact lockgateref01_Jump.mono _ _ _ _ _)
   | (with_reducible exact LeO.refl _)
   | (with_reducible exact LeO.none _)
   | (with_reducible refine LeO.ite ?_ ?_)
   | (with_reducible refine LeO.bind ?_ (fun _ => ?_))
   | exact ih0 _ _ _ _ _ _ _ _ _ _ _
   | exact ih1 _ _ _ _ _ _ _ _ _ _ _
   | exact ih2 _ _ _ _ _ _ _ _ _ _
   | exact ih3 _ _ _ _ _ _ _ _ _ _ _
   | exact ih4 _ _ _ _ _ _ _ _ _ _
   | exact ih5 _ _ _ _ _ _ _ _ _ _ _ _
   | exact ih6 _ _ _ _
   | exact lockgateref01_Jump.mono _ _ _ _ _
   | exact LeO.none _
   | refine LeO.ite ?_ ?_
   | refine LeO.bind ?_ (fun _ => ?_)
  ·intro y0 y1 y2 y3 y4 y5 y6 y7 y8 y9 y10
   unfold lockgateref14_Compare.j3
   repeat' first
   | (with_reducible exact ih0 _ _ _ _ _ _ _ _ _ _ _)
   | (with_reducible exact ih1 _ _ _ _ _ _ _ _ _ _ _)
   | (with_reducible exact ih2 _ _ _ _ _ _ _ _ _ _)
   | (with_reducible exact ih3 _ _ _ _ _ _ _ _ _ _ _)
   | (with_reducible exact ih4 _ _ _ _ _ _ _ _ _ _)
   | (with_reducible exact ih5 _ _ _ _ _ _ _ _ _ _ _ _)
   | (with_reducible exact ih6 _ _ _ _)
   | (with_reducible exact lockgateref01_Jump.mono _ _ _ _ _)
   | (with_reducible exact LeO.refl _)
   | (with_reducible exact LeO.none _)
   | (with_reducible refine LeO.ite ?_ ?_)
   | (with_reducible refine LeO.bind ?_ (fun _ => ?_))
   | exact ih0 _ _ _ _ _ _ _ _ _ _ _
   | exact ih1 _ _ _ _ _ _ _ _ _ _ _
   | exact ih2 _ _ _ _ _ _ _ _ _ _
   | exact ih3 _ _ _ _ _ _ _ _ _ _ _
   | exact ih4 _ _ _ _ _ _ _ _ _ _
   | exact ih5 _ _ _ _ _ _ _ _ _ _ _ _
   | exact ih6 _ _ _ _
   | exact lockgateref01_Jump.mono _ _ _ _ _
   | exact LeO.none _
   | refine LeO.ite ?_ ?_
   | refine LeO.bind ?_ (fun _ => ?_)
  ·intro y0 y1 y2 y3 y4 y5 y6 y7 y8 y9
   unfold lockgateref14_Compare.j4
   repeat' first
   | (with_reducible exact ih0 _ _ _ _ _ _ _ _ _ _ _)
   | (with_reducible exact ih1 _ _ _ _ _ _ _ _ _ _ _)
   | (with_reducible exact ih2 _ _ _ _ _ _ _ _ _ _)
   | (with_reducible exact ih3 _ _ _ _ _ _ _ _ _ _ _)
   | (with_reducible exact ih4 _ _ _ _ _ _ _ _ _ _)
   | (with_reducible exact ih5 _ _ _ _ _ _ _ _ _ _ _ _)
   | (with_reducible exact ih6 _ _ _ _)
   | (with_reducible exact lockgateref01_Jump.mono _ _ _ _ _)
   | (with_reducible exact LeO.refl _)
   | (with_reducible exact LeO.none _)
   | (with_reducible refine LeO.ite ?_ ?_)
   | (with_reducible refine LeO.bind ?_ (fun _ => ?_))
   | exact ih0 _ _ _ _ _ _ _ _ _ _ _
   | exact ih1 _ _ _ _ _ _ _ _ _ _ _
   | exact ih2 _ _ _ _ _ _ _ _ _ _
   | exact ih3 _ _ _ _ _ _ _ _ _ _ _
   | exact ih4 _ _ _ _ _ _ _ _ _ _
   | exact ih5 _ _ _ _ _ _ _ _ _ _ _ _
   | exact ih6 _ _ _ _
   | exact lockgateref01_Jump.mono _ _ _ _ _
   | exact LeO.none _
   | refine LeO.ite ?_ ?_
   | refine LeO.bind ?_ (fun _ => ?_)
  ·intro y0 y1 y2 y3 y4 y5 y6 y7 y8 y9 y10 y11
   unfold lockgateref14_Compare.j5
   repeat' first
   | (with_reducible exact ih0 _ _ _ _ _ _ _ _ _ _ _)
   | (with_reducible exact ih1 _ _ _ _ _ _ _ _ _ _ _)
   | (with_reducible exact ih2 _ _ _ _ _ _ _ _ _ _)
   | (with_reducible exact ih3 _ _ _ _ _ _ _ _ _ _ _)
   | (with_reducible exact ih4 _ _ _ _ _ _ _ _ _ _)
   | (with_reducible exact ih5 _ _ _ _ _ _ _ _ _ _ _ _)
   | (with_reducible exact ih6 _ _ _ _)
   | (with_reducible exact lockgateref01_Jump.mono _ _ _ _ _)
   | (with_reducible exact LeO.refl _)
   | (with_reducible exact LeO.none _)
   | (with_reducible refine LeO.ite ?_ ?_)
   | (with_reducible refine LeO.bind ?_ (fun _ => ?_))
   | exact ih0 _ _ _ _ _ _ _ _ _ _ _
   | exact ih1 _ _ _ _ _ _ _ _ _ _ _
   | exact ih2 _ _ _ _ _ _ _ _ _ _
   | exact ih3 _ _ _ _ _ _ _ _ _ _ _
   | exact ih4 _ _ _ _ _ _ _ _ _ _
   | exact ih5 _ _ _ _ _ _ _ _ _ _ _ _
   | exact ih6 _ _ _ _
   | exact lockgateref01_Jump.mono _ _ _ _ _
   | exact LeO.none _
   | refine LeO.ite ?_ ?_
   | refine LeO.bind ?_ (fun _ => ?_)
  ·intro y0 y1 y2 y3
   unfold lockgateref14_Compare.j6
   repeat' first
   | (with_reducible exact ih0 _ _ _ _ _ _ _ _ _ _ _)
   | (with_reducible exact ih1 _ _ _ _ _ _ _ _ _ _ _)
   | (with_reducible exact ih2 _ _ _ _ _ _ _ _ _ _)
   | (with_reducible exact ih3 _ _ _ _ _ _ _ _ _ _ _)
   | (with_reducible exact ih4 _ _ _ _ _ _ _ _ _ _)
   | (with_reducible exact ih5 _ _ _ _ _ _ _ _ _ _ _ _)
   | (with_reducible exact ih6 _ _ _ _)
   | (with_reducible exact lockgateref01_Jump.mono _ _ _ _ _)
   | (with_reducible exact LeO.refl _)
   | (with_reducible exact LeO.none _)
   | (with_reducible refine LeO.ite ?_ ?_)
   | (with_reducible refine LeO.bind ?_ (fun _ => ?_))
   | exact ih0 _ _ _ _ _ _ _ _ _ _ _
   | exact ih1 _ _ _ _ _ _ _ _ _ _ _
   | exact ih2 _ _ _ _ _ _ _ _ _ _
   | exact ih3 _ _ _ _ _ _ _ _ _ _ _
   | exact ih4 _ _ _ _ _ _ _ _ _ _
   | exact ih5 _ _ _ _ _ _ _ _ _ _ _ _
   | exact ih6 _ _ _ _
   | exact lockgateref01_Jump.mono _ _ _ _ _
   | exact LeO.none _
   | refine LeO.ite ?_ ?_
   | refine LeO.bind ?_ (fun _ => ?_)
theorem lockgateref14_Compare.mono : ∀ a0 a1 a2 a3 a4 a5 a6 a7 a8 k, LeO (lockgateref14_Compare.f k a0 a1 a2 a3 a4 a5 a6 a7 a8) (lockgateref14_Compare.f (k + 1) a0 a1 a2 a3 a4 a5 a6 a7 a8) := by
 intro a0 a1 a2 a3 a4 a5 a6 a7 a8 k
 obtain ⟨ih0, ih1, ih2, ih3, ih4, ih5, ih6⟩ := lockgateref14_Compare.mono_l k
 unfold lockgateref14_Compare.f
 repeat' first
  | (with_reducible exact ih0 _ _ _ _ _ _ _ _ _ _ _)
  | (with_reducible exact ih1 _ _ _ _ _ _ _ _ _ _ _)
  | (with_reducible exact ih2 _ _ _ _ _ _ _ _ _ _)
  | (with_reducible exact ih3 _ _ _ _ _ _ _ _ _ _ _)
  | (with_reducible exact ih4 _ _ _ _ _ _ _ _ _ _)
  | (with_reducible exact ih5 _ _ _ _ _ _ _ _ _ _ _ _)
  | (with_reducible exact ih6 _ _ _ _)
  | (with_reducible exact lockgateref01_Jump.mono _ _ _ _ _)
  | (with_reducible exact LeO.refl _)
  | (with_reducible exact LeO.none _)
  | (with_reducible refine LeO.ite ?_ ?_)
  | (with_reducible refine LeO.bind ?_ (fun _ => ?_))
  | exact ih0 _ _ _ _ _ _ _ _ _ _ _
  | exact ih1 _ _ _ _ _ _ _ _ _ _ _
  | exact ih2 _ _ _ _ _ _ _ _ _ _
  | exact ih3 _ _ _ _ _ _ _ _ _ _ _
  | exact ih4 _ _ _ _ _ _ _ _ _ _
  | exact ih5 _ _ _ _ _ _ _ _ _ _ _ _
  | exact ih6 _ _ _ _
  | exact lockgateref01_Jump.mono _ _ _ _ _
  | exact LeO.none _
  | refine LeO.ite ?_ ?_
  | refine LeO.bind ?_ (fun _ => ?_)
set_option maxHeartbeats 8000000 in
set_option maxRecDepth 100000 in
theorem lockgateref14_Compare.calls (k : Nat) (a0 : Int) (a1 : Bool) (a2_0 : Int) (a2_1 : Int) (a2_2 : Int) (a3_0 : Int) (a3_1 : Int) (a3_2 : Int) (a4 : Int) (r1 : Bool) (r2 : Int) (w : World) (h : lockgateref14_Compare.f k a0 a1 a2_0 a2_1 a2_2 a3_0 a3_1 a3_2 a4 = some (r1, r2)) :
 Calls Try.prog 21 #[.int .i64 a0, .bool a1, .agg #[.int .i64 a2_0, .int .u64 a2_1, .int .i64 a2_2], .agg #[.int .i64 a3_0, .int .u64 a3_1, .int .i64 a3_2], .int .i64 a4] w fun e w' => e = .returned (.tuple #[.bool r1, .int .i64 r2]) ∧ Below w.heap.size w w' := by
 have hu24 := Try.underlying24
 have HB := Aside0.mk (Below.refl w.heap.size w)
 have H : ((lockgateref01_Jump.f k a0 a1 a2_1 a3_1).bind fun bt287 => (if bt287.2 = true then (if a2_0 = 0 then (lockgateref14_Compare.j0 k a0 a1 a4 bt287.1 true a2_0 a2_1 a2_2 a3_0 a3_1 a3_2) else (lockgateref14_Compare.j0 k a0 a1 a4 bt287.1 (a3_0 == 0) a2_0 a2_1 a2_2 a3_0 a3_1 a3_2)) else (some (false, 4)))) = some (r1, r2) := h
 clear h
 replace H := Option.bind_eq_some_iff.mp H
 obtain ⟨⟨t287, t288⟩, A60, H⟩ := H
 replace H : (if t288 = true then (if a2_0 = 0 then (lockgateref14_Compare.j0 k a0 a1 a4 t287 true a2_0 a2_1 a2_2 a3_0 a3_1 a3_2) else (lockgateref14_Compare.j0 k a0 a1 a4 t287 (a3_0 == 0) a2_0 a2_1 a2_2 a3_0 a3_1 a3_2)) else (some (false, 4))) = some (r1, r2) := H
 have A6 := Aside0.mk A60
 clear A60
 by_cases c7 : t288 = true
 ·subst c7
  have H1 : (if a2_0 = 0 then (lockgateref14_Compare.j0 k a0 a1 a4 t287 true a2_0 a2_1 a2_2 a3_0 a3_1 a3_2) else (lockgateref14_Compare.j0 k a0 a1 a4 t287 (a3_0 == 0) a2_0 a2_1 a2_2 a3_0 a3_1 a3_2)) = some (r1, r2) := by rw [if_pos rfl] at H; exact H
  clear H
  have H := H1
  clear H1
  have HC8 := Aside0.mk H
  clear H
  go_enter Try.func21, Try.ntmps21
  go_upto_region 4 with (first | ((with_reducible refine gate_dst (N := 7) rfl ?_); refine bx_ 7 #[.int .i64 a2_0, .int .u64 a2_1, .int .i64 a2_2] 24 ?_; intro gb285 hg w9 BK285 hb; have GW285 := bg_ hg; have GE285 := GW285; replace HB := bl_ hb; clear hb hg) | ((with_reducible refine gate_dst (N := 8) rfl ?_); refine bx_ 8 #[.int .i64 a3_0, .int .u64 a3_1, .int .i64 a3_2] 24 ?_; intro gb286 hg w10 BK286 hb; have GW286 := bg_ hg; have GE286 := GW286; have NB285_286 := bm_ hg BK285; have NB286_285 := bn_ hg BK285; replace BK285 := bb_ hb BK285; replace HB := bl_ hb; clear hb hg; have hnb11 := NB285_286.out; have hnc11 := NB286_285.out; obtain ⟨zc12_0, zc12_1, zc12_2, zf12_0, zf12_1, zf12_2⟩ := k3_ BK285; obtain ⟨zc13_0, zc13_1, zc13_2, zf13_0, zf13_1, zf13_2⟩ := k3_ BK286) | ((with_reducible refine gate_callee (f := 32) rfl ?_); refine gM_ 24 Try.func32 (lockgateref01_Jump.calls k a0 a1 a2_1 a3_1 t287 true _ A6.out) ?_; rintro w' ⟨nd, rfl⟩))
  (try simp only [Act.put, s1_, s2_, s3_])
  go_cut [36] (fun v36 wc => ∃ (kq : Nat) (x36_7 : Bool), v36 = .bool x36_7 ∧ Aside0 (lockgateref14_Compare.j0 kq a0 a1 a4 t287 x36_7 a2_0 a2_1 a2_2 a3_0 a3_1 a3_2 = some (r1, r2)) ∧ Aside0 (kq ≤ k) ∧ Aside0 (wc.heap[gb285]? = some (.cells #[.int .i64 a2_0, .int .u64 a2_1, .int .i64 a2_2] 24 (0, 0))) ∧ Aside0 (wc.heap[gb286]? = some (.cells #[.int .i64 a3_0, .int .u64 a3_1, .int .i64 a3_2] 24 (0, 0))) ∧ Aside0 (Below w.heap.size w wc))
  case first =>
   have H := HC8.out
   clear HC8
   by_cases c14 : a2_0 = 0
   ·rw [if_pos c14] at H
    have c14b0 : (a2_0 == 0) = true := beq_iff_eq.mpr c14
    have c14b1 : (a2_0 != 0) = false := bne_eq_false_iff_eq.mpr c14
    clear c14
    (first | rw [c14b0] | (simp only [i64_w, i32_w]; rw [c14b0]) | skip)
    have H' := Aside0.mk H
    clear H
    have hnb15 := NB285_286.out
    have hnc15 := NB286_285.out
    obtain ⟨zc16_0, zc16_1, zc16_2, zf16_0, zf16_1, zf16_2⟩ := k3_ BK285
    go_wp2
    go_meet
    case rel => exact ⟨_, (true), (by first | rfl | (simp; done) | (simp [*]; done)), H', ⟨by first | omega | exact Nat.le_refl _⟩, ⟨bk_⟩, ⟨bk_⟩, ⟨bz_⟩⟩
   ·rw [if_neg c14] at H
    have c14b0 : (a2_0 == 0) = false := beq_eq_false_iff_ne.mpr c14
    have c14b1 : (a2_0 != 0) = true := bne_iff_ne.mpr c14
    (first | rw [c14b0] | (simp only [i64_w, i32_w]; rw [c14b0]) | skip)
    have H' := Aside0.mk H
    clear H
    have hnb17 := NB285_286.out
    have hnc17 := NB286_285.out
    obtain ⟨zc18_0, zc18_1, zc18_2, zf18_0, zf18_1, zf18_2⟩ := k3_ BK285
    obtain ⟨zc19_0, zc19_1, zc19_2, zf19_0, zf19_1, zf19_2⟩ := k3_ BK286
    go_wp2
    go_meet
    case rel => exact ⟨_, ((a3_0 == 0)), (by first | rfl | (simp; done) | (simp [*]; done)), H', ⟨by first | omega | exact Nat.le_refl _⟩, ⟨bk_⟩, ⟨bk_⟩, ⟨bz_⟩⟩
  case rest =>
   clear HC8
   try clear c1
   try clear c2
   try clear p2
   try clear c3
   try clear c7
   try clear c11
   try clear c14
   try clear c14b0
   try clear c14b1
   try clear c15
   try clear c17
   try clear zc12_0
   try clear zc12_1
   try clear zc12_2
   try clear zc13_0
   try clear zc13_1
   try clear zc13_2
   try clear zc16_0
   try clear zc16_1
   try clear zc16_2
   try clear zc18_0
   try clear zc18_1
   try clear zc18_2
   try clear zc19_0
   try clear zc19_1
   try clear zc19_2
   try clear zf12_0
   try clear zf12_1
   try clear zf12_2
   try clear zf13_0
   try clear zf13_1
   try clear zf13_2
   try clear zf16_0
   try clear zf16_1
   try clear zf16_2
   try clear zf18_0
   try clear zf18_1
   try clear zf18_2
   try clear zf19_0
   try clear zf19_1
   try clear zf19_2
   obtain ⟨kq, x36_7, rfl, HA, HJ7, BK285, BK286, HB⟩ := hcut
   cases kq with
   | zero => exact absurd HA.out (by simp [lockgateref14_Compare.j0])
   | succ kj7 =>
    have H := HA.out
    clear HA
    simp only [lockgateref14_Compare.j0] at H
    by_cases c20 : x36_7 = true
    ·subst c20
     have H1 : (some (false, 20)) = some (r1, r2) := by rw [if_pos rfl] at H; exact H
     clear H
     have H := H1
     clear H1
     simp only [Option.some.injEq, Prod.mk.injEq] at H
     obtain ⟨rfl, rfl⟩ := H
     go_wp2
     go_ret2
     exact ⟨vv_, bz_⟩
    ·replace c20 := Bool.eq_false_iff.mpr c20
     subst c20
     have H1 : (if a2_0 = 1 then (lockgateref14_Compare.j1 kj7 a0 a1 a4 t287 (a3_0 == 1) a2_0 a2_1 a2_2 a3_0 a3_1 a3_2) else (lockgateref14_Compare.j1 kj7 a0 a1 a4 t287 false a2_0 a2_1 a2_2 a3_0 a3_1 a3_2)) = some (r1, r2) := by rw [if_neg (show ¬ (false = true) by decide)] at H; exact H
     clear H
     have H := H1
     clear H1
     have HC21 := Aside0.mk H
     clear H
     go_upto_region 6 with (fail)
     go_cut [44] (fun v44 wc => ∃ (kq : Nat) (x44_20 : Bool), v44 = .bool x44_20 ∧ Aside0 (lockgateref14_Compare.j1 kq a0 a1 a4 t287 x44_20 a2_0 a2_1 a2_2 a3_0 a3_1 a3_2 = some (r1, r2)) ∧ Aside0 (kq ≤ kj7) ∧ Aside0 (wc.heap[gb285]? = some (.cells #[.int .i64 a2_0, .int .u64 a2_1, .int .i64 a2_2] 24 (0, 0))) ∧ Aside0 (wc.heap[gb286]? = some (.cells #[.int .i64 a3_0, .int .u64 a3_1, .int .i64 a3_2] 24 (0, 0))) ∧ Aside0 (Below w.heap.size w wc))
     case first =>
      have H := HC21.out
      clear HC21
      by_cases c22 : a2_0 = 1
      ·rw [if_pos c22] at H
       have c22b0 : (a2_0 == 1) = true := beq_iff_eq.mpr c22
       have c22b1 : (a2_0 != 1) = false := bne_eq_false_iff_eq.mpr c22
       clear c22
       (first | rw [c22b0] | (simp only [i64_w, i32_w]; rw [c22b0]) | skip)
       have H' := Aside0.mk H
       clear H
       have hnb23 := NB285_286.out
       have hnc23 := NB286_285.out
       obtain ⟨zc24_0, zc24_1, zc24_2, zf24_0, zf24_1, zf24_2⟩ := k3_ BK285
       obtain ⟨zc25_0, zc25_1, zc25_2, zf25_0, zf25_1, zf25_2⟩ := k3_ BK286
       go_wp2
       go_meet
       case rel => exact ⟨_, ((a3_0 == 1)), (by first | rfl | (simp; done) | (simp [*]; done)), H', ⟨by have := HJ7.out; first | omega | exact Nat.le_refl _⟩, ⟨bk_⟩, ⟨bk_⟩, ⟨bz_⟩⟩
      ·rw [if_neg c22] at H
       have c22b0 : (a2_0 == 1) = false := beq_eq_false_iff_ne.mpr c22
       have c22b1 : (a2_0 != 1) = true := bne_iff_ne.mpr c22
       (first | rw [c22b0] | (simp only [i64_w, i32_w]; rw [c22b0]) | skip)
       have H' := Aside0.mk H
       clear H
       have hnb26 := NB285_286.out
       have hnc26 := NB286_285.out
       obtain ⟨zc27_0, zc27_1, zc27_2, zf27_0, zf27_1, zf27_2⟩ := k3_ BK285
       go_wp2
       go_meet
       case rel => exact ⟨_, (false), (by first | rfl | (simp; done) | (simp [*]; done)), H', ⟨by have := HJ7.out; first | omega | exact Nat.le_refl _⟩, ⟨bk_⟩, ⟨bk_⟩, ⟨bz_⟩⟩
     case rest =>
      clear HC21
      try clear c1
      try clear c2
      try clear p2
      try clear c3
      try clear c7
      try clear c11
      try clear c14
      try clear c14b0
      try clear c14b1
      try clear c15
      try clear c17
      try clear c20
      try clear c21
      try clear c22
      try clear c22b0
      try clear c22b1
      try clear c23
      try clear c26
      try clear zc12_0
      try clear zc12_1
      try clear zc12_2
      try clear zc13_0
      try clear zc13_1
      try clear zc13_2
      try clear zc16_0
      try clear zc16_1
      try clear zc16_2
      try clear zc18_0
      try clear zc18_1
      try clear zc18_2
      try clear zc19_0
      try clear zc19_1
      try clear zc19_2
      try clear zc24_0
      try clear zc24_1
      try clear zc24_2
      try clear zc25_0
      try clear zc25_1
      try clear zc25_2
      try clear zc27_0
      try clear zc27_1
      try clear zc27_2
      try clear zf12_0
      try clear zf12_1
      try clear zf12_2
      try clear zf13_0
      try clear zf13_1
      try clear zf13_2
      try clear zf16_0
      try clear zf16_1
      try clear zf16_2
      try clear zf18_0
      try clear zf18_1
      try clear zf18_2
      try clear zf19_0
      try clear zf19_1
      try clear zf19_2
      try clear zf24_0
      try clear zf24_1
      try clear zf24_2
      try clear zf25_0
      try clear zf25_1
      try clear zf25_2
      try clear zf27_0
      try clear zf27_1
      try clear zf27_2
      try clear p2
      obtain ⟨kq, x44_20, rfl, HA, HJ20, BK285, BK286, HB⟩ := hcut
      cases kq with
      | zero => exact absurd HA.out (by simp [lockgateref14_Compare.j1])
      | succ kj20 =>
       have H := HA.out
       clear HA
       simp only [lockgateref14_Compare.j1] at H
       by_cases c28 : x44_20 = true
       ·subst c28
        have H1 : (some (t287, 0)) = some (r1, r2) := by rw [if_pos rfl] at H; exact H
        clear H
        have H := H1
        clear H1
        simp only [Option.some.injEq, Prod.mk.injEq] at H
        obtain ⟨rfl, rfl⟩ := H
        go_wp2
        go_ret2
        exact ⟨vv_, bz_⟩
       ·replace c28 := Bool.eq_false_iff.mpr c28
        subst c28
        have H1 : (if a2_0 = 6 then (if a3_0 = 1 then (if a3_1 = 0 then (lockgateref14_Compare.j2 kj20 a0 a1 a4 true a2_0 a2_1 a2_2 a3_0 a3_1 a3_2) else (if a3_0 = 6 then (if a2_0 = 1 then (lockgateref14_Compare.j2 kj20 a0 a1 a4 (a2_1 == 0) a2_0 a2_1 a2_2 a3_0 a3_1 a3_2) else (lockgateref14_Compare.j2 kj20 a0 a1 a4 false a2_0 a2_1 a2_2 a3_0 a3_1 a3_2)) else (lockgateref14_Compare.j2 kj20 a0 a1 a4 false a2_0 a2_1 a2_2 a3_0 a3_1 a3_2))) else (if a3_0 = 6 then (if a2_0 = 1 then (lockgateref14_Compare.j2 kj20 a0 a1 a4 (a2_1 == 0) a2_0 a2_1 a2_2 a3_0 a3_1 a3_2) else (lockgateref14_Compare.j2 kj20 a0 a1 a4 false a2_0 a2_1 a2_2 a3_0 a3_1 a3_2)) else (lockgateref14_Compare.j2 kj20 a0 a1 a4 false a2_0 a2_1 a2_2 a3_0 a3_1 a3_2))) else (if a3_0 = 6 then (if a2_0 = 1 then (lockgateref14_Compare.j2 kj20 a0 a1 a4 (a2_1 == 0) a2_0 a2_1 a2_2 a3_0 a3_1 a3_2) else (lockgateref14_Compare.j2 kj20 a0 a1 a4 false a2_0 a2_1 a2_2 a3_0 a3_1 a3_2)) else (lockgateref14_Compare.j2 kj20 a0 a1 a4 false a2_0 a2_1 a2_2 a3_0 a3_1 a3_2))) = some (r1, r2) := by rw [if_neg (show ¬ (false = true) by decide)] at H; exact H
        clear H
        have H := H1
        clear H1
        have HC29 := Aside0.mk H
        clear H
        go_upto_region 8 with (fail)
        go_cut [14] (fun v14 wc => ∃ (kq : Nat) (x14_28 : Bool), v14 = .bool x14_28 ∧ Aside0 (lockgateref14_Compare.j2 kq a0 a1 a4 x14_28 a2_0 a2_1 a2_2 a3_0 a3_1 a3_2 = some (r1, r2)) ∧ Aside0 (kq ≤ kj20) ∧ Aside0 (wc.heap[gb285]? = some (.cells #[.int .i64 a2_0, .int .u64 a2_1, .int .i64 a2_2] 24 (0, 0))) ∧ Aside0 (wc.heap[gb286]? = some (.cells #[.int .i64 a3_0, .int .u64 a3_1, .int .i64 a3_2] 24 (0, 0))) ∧ Aside0 (Below w.heap.size w wc))
        case first =>
         have H := HC29.out
         clear HC29
         by_cases c30 : a2_0 = 6
         ·rw [if_pos c30] at H
          have c30b0 : (a2_0 == 6) = true := beq_iff_eq.mpr c30
          have c30b1 : (a2_0 != 6) = false := bne_eq_false_iff_eq.mpr c30
          clear c30
          (first | rw [c30b0] | (simp only [i64_w, i32_w]; rw [c30b0]) | skip)
          by_cases c31 : a3_0 = 1
          ·rw [if_pos c31] at H
           have c31b0 : (a3_0 == 1) = true := beq_iff_eq.mpr c31
           have c31b1 : (a3_0 != 1) = false := bne_eq_false_iff_eq.mpr c31
           clear c31
           by_cases c32 : a3_1 = 0
           ·rw [if_pos c32] at H
            have c32b0 : (a3_1 == 0) = true := beq_iff_eq.mpr c32
            have c32b1 : (a3_1 != 0) = false := bne_eq_false_iff_eq.mpr c32
            clear c32
            have H' := Aside0.mk H
            clear H
            have hnb33 := NB285_286.out
            have hnc33 := NB286_285.out
            obtain ⟨zc34_0, zc34_1, zc34_2, zf34_0, zf34_1, zf34_2⟩ := k3_ BK285
            obtain ⟨zc35_0, zc35_1, zc35_2, zf35_0, zf35_1, zf35_2⟩ := k3_ BK286
            go_wp2
            go_meet
            case rel => exact ⟨_, (true), (by first | rfl | (simp; done) | (simp [*]; done)), H', ⟨by have := HJ7.out; have := HJ20.out; first | omega | exact Nat.le_refl _⟩, ⟨bk_⟩, ⟨bk_⟩, ⟨bz_⟩⟩
           ·rw [if_neg c32] at H
            have c32b0 : (a3_1 == 0) = false := beq_eq_false_iff_ne.mpr c32
            have c32b1 : (a3_1 != 0) = true := bne_iff_ne.mpr c32
            by_cases c36 : a3_0 = 6
            ·rw [if_pos c36] at H
             exact absurd (c36.symm.trans (eq_of_beq c31b0)) (by decide)
            ·rw [if_neg c36] at H
             have c36b0 : (a3_0 == 6) = false := beq_eq_false_iff_ne.mpr c36
             have c36b1 : (a3_0 != 6) = true := bne_iff_ne.mpr c36
             have H' := Aside0.mk H
             clear H
             have hnb37 := NB285_286.out
             have hnc37 := NB286_285.out
             obtain ⟨zc38_0, zc38_1, zc38_2, zf38_0, zf38_1, zf38_2⟩ := k3_ BK285
             obtain ⟨zc39_0, zc39_1, zc39_2, zf39_0, zf39_1, zf39_2⟩ := k3_ BK286
             go_wp2
             go_meet
             case rel => exact ⟨_, (false), (by first | rfl | (simp; done) | (simp [*]; done)), H', ⟨by have := HJ7.out; have := HJ20.out; first | omega | exact Nat.le_refl _⟩, ⟨bk_⟩, ⟨bk_⟩, ⟨bz_⟩⟩
          ·rw [if_neg c31] at H
           have c31b0 : (a3_0 == 1) = false := beq_eq_false_iff_ne.mpr c31
           have c31b1 : (a3_0 != 1) = true := bne_iff_ne.mpr c31
           by_cases c40 : a3_0 = 6
           ·rw [if_pos c40] at H
            have c40b0 : (a3_0 == 6) = true := beq_iff_eq.mpr c40
            have c40b1 : (a3_0 != 6) = false := bne_eq_false_iff_eq.mpr c40
            clear c40
            by_cases c41 : a2_0 = 1
            ·rw [if_pos c41] at H
             exact absurd (c41.symm.trans (eq_of_beq c30b0)) (by decide)
            ·rw [if_neg c41] at H
             have c41b0 : (a2_0 == 1) = false := beq_eq_false_iff_ne.mpr c41
             have c41b1 : (a2_0 != 1) = true := bne_iff_ne.mpr c41
             have H' := Aside0.mk H
             clear H
             have hnb42 := NB285_286.out
             have hnc42 := NB286_285.out
             obtain ⟨zc43_0, zc43_1, zc43_2, zf43_0, zf43_1, zf43_2⟩ := k3_ BK285
             obtain ⟨zc44_0, zc44_1, zc44_2, zf44_0, zf44_1, zf44_2⟩ := k3_ BK286
             go_wp2
             go_meet
             case rel => exact ⟨_, (false), (by first | rfl | (simp; done) | (simp [*]; done)), H', ⟨by have := HJ7.out; have := HJ20.out; first | omega | exact Nat.le_refl _⟩, ⟨bk_⟩, ⟨bk_⟩, ⟨bz_⟩⟩
           ·rw [if_neg c40] at H
            have c40b0 : (a3_0 == 6) = false := beq_eq_false_iff_ne.mpr c40
            have c40b1 : (a3_0 != 6) = true := bne_iff_ne.mpr c40
            have H' := Aside0.mk H
            clear H
            have hnb45 := NB285_286.out
            have hnc45 := NB286_285.out
            obtain ⟨zc46_0, zc46_1, zc46_2, zf46_0, zf46_1, zf46_2⟩ := k3_ BK285
            obtain ⟨zc47_0, zc47_1, zc47_2, zf47_0, zf47_1, zf47_2⟩ := k3_ BK286
            go_wp2
            go_meet
            case rel => exact ⟨_, (false), (by first | rfl | (simp; done) | (simp [*]; done)), H', ⟨by have := HJ7.out; have := HJ20.out; first | omega | exact Nat.le_refl _⟩, ⟨bk_⟩, ⟨bk_⟩, ⟨bz_⟩⟩
         ·rw [if_neg c30] at H
          have c30b0 : (a2_0 == 6) = false := beq_eq_false_iff_ne.mpr c30
          have c30b1 : (a2_0 != 6) = true := bne_iff_ne.mpr c30
          (first | rw [c30b0] | (simp only [i64_w, i32_w]; rw [c30b0]) | skip)
          by_cases c48 : a3_0 = 6
          ·rw [if_pos c48] at H
           have c48b0 : (a3_0 == 6) = true := beq_iff_eq.mpr c48
           have c48b1 : (a3_0 != 6) = false := bne_eq_false_iff_eq.mpr c48
           clear c48
           by_cases c49 : a2_0 = 1
           ·rw [if_pos c49] at H
            have c49b0 : (a2_0 == 1) = true := beq_iff_eq.mpr c49
            have c49b1 : (a2_0 != 1) = false := bne_eq_false_iff_eq.mpr c49
            clear c49
            have H' := Aside0.mk H
            clear H
            have hnb50 := NB285_286.out
            have hnc50 := NB286_285.out
            obtain ⟨zc51_0, zc51_1, zc51_2, zf51_0, zf51_1, zf51_2⟩ := k3_ BK285
            obtain ⟨zc52_0, zc52_1, zc52_2, zf52_0, zf52_1, zf52_2⟩ := k3_ BK286
            go_wp2
            go_meet
            case rel => exact ⟨_, ((a2_1 == 0)), (by first | rfl | (simp; done) | (simp [*]; done)), H', ⟨by have := HJ7.out; have := HJ20.out; first | omega | exact Nat.le_refl _⟩, ⟨bk_⟩, ⟨bk_⟩, ⟨bz_⟩⟩
           ·rw [if_neg c49] at H
            have c49b0 : (a2_0 == 1) = false := beq_eq_false_iff_ne.mpr c49
            have c49b1 : (a2_0 != 1) = true := bne_iff_ne.mpr c49
            have H' := Aside0.mk H
            clear H
            have hnb53 := NB285_286.out
            have hnc53 := NB286_285.out
            obtain ⟨zc54_0, zc54_1, zc54_2, zf54_0, zf54_1, zf54_2⟩ := k3_ BK285
            obtain ⟨zc55_0, zc55_1, zc55_2, zf55_0, zf55_1, zf55_2⟩ := k3_ BK286
            go_wp2
            go_meet
            case rel => exact ⟨_, (false), (by first | rfl | (simp; done) | (simp [*]; done)), H', ⟨by have := HJ7.out; have := HJ20.out; first | omega | exact Nat.le_refl _⟩, ⟨bk_⟩, ⟨bk_⟩, ⟨bz_⟩⟩
          ·rw [if_neg c48] at H
           have c48b0 : (a3_0 == 6) = false := beq_eq_false_iff_ne.mpr c48
           have c48b1 : (a3_0 != 6) = true := bne_iff_ne.mpr c48
           have H' := Aside0.mk H
           clear H
           have hnb56 := NB285_286.out
           have hnc56 := NB286_285.out
           obtain ⟨zc57_0, zc57_1, zc57_2, zf57_0, zf57_1, zf57_2⟩ := k3_ BK285
           obtain ⟨zc58_0, zc58_1, zc58_2, zf58_0, zf58_1, zf58_2⟩ := k3_ BK286
           go_wp2
           go_meet
           case rel => exact ⟨_, (false), (by first | rfl | (simp; done) | (simp [*]; done)), H', ⟨by have := HJ7.out; have := HJ20.out; first | omega | exact Nat.le_refl _⟩, ⟨bk_⟩, ⟨bk_⟩, ⟨bz_⟩⟩
        case rest =>
         clear HC29
         try clear c1
         try clear c2
         try clear p2
         try clear c3
         try clear c4
         try clear c5
         try clear c7
         try clear c11
         try clear c14
         try clear c14b0
         try clear c14b1
         try clear c15
         try clear c17
         try clear c20
         try clear c21
         try clear c22
         try clear c22b0
         try clear c22b1
         try clear c23
         try clear c26
         try clear c28
         try clear c30
         try clear c30b0
         try clear c30b1
         try clear c31
         try clear c31b0
         try clear c31b1
         try clear c32
         try clear c32b0
         try clear c32b1
         try clear c33
         try clear c36
         try clear c36b0
         try clear c36b1
         try clear c37
         try clear c40
         try clear c40b0
         try clear c40b1
         try clear c41
         try clear c41b0
         try clear c41b1
         try clear c42
         try clear c45
         try clear c48
         try clear c48b0
         try clear c48b1
         try clear c49
         try clear c49b0
         try clear c49b1
         try clear c50
         try clear c53
         try clear c56
         try clear zc12_0
         try clear zc12_1
         try clear zc12_2
         try clear zc13_0
         try clear zc13_1
         try clear zc13_2
         try clear zc16_0
         try clear zc16_1
         try clear zc16_2
         try clear zc18_0
         try clear zc18_1
         try clear zc18_2
         try clear zc19_0
         try clear zc19_1
         try clear zc19_2
         try clear zc24_0
         try clear zc24_1
         try clear zc24_2
         try clear zc25_0
         try clear zc25_1
         try clear zc25_2
         try clear zc27_0
         try clear zc27_1
         try clear zc27_2
         try clear zc34_0
         try clear zc34_1
         try clear zc34_2
         try clear zc35_0
         try clear zc35_1
         try clear zc35_2
         try clear zc38_0
         try clear zc38_1
         try clear zc38_2
         try clear zc39_0
         try clear zc39_1
         try clear zc39_2
         try clear zc43_0
         try clear zc43_1
         try clear zc43_2
         try clear zc44_0
         try clear zc44_1
         try clear zc44_2
         try clear zc46_0
         try clear zc46_1
         try clear zc46_2
         try clear zc47_0
         try clear zc47_1
         try clear zc47_2
         try clear zc51_0
         try clear zc51_1
         try clear zc51_2
         try clear zc52_0
         try clear zc52_1
         try clear zc52_2
         try clear zc54_0
         try clear zc54_1
         try clear zc54_2
         try clear zc55_0
         try clear zc55_1
         try clear zc55_2
         try clear zc57_0
         try clear zc57_1
         try clear zc57_2
         try clear zc58_0
         try clear zc58_1
         try clear zc58_2
         try clear zf12_0
         try clear zf12_1
         try clear zf12_2
         try clear zf13_0
         try clear zf13_1
         try clear zf13_2
         try clear zf16_0
         try clear zf16_1
         try clear zf16_2
         try clear zf18_0
         try clear zf18_1
         try clear zf18_2
         try clear zf19_0
         try clear zf19_1
         try clear zf19_2
         try clear zf24_0
         try clear zf24_1
         try clear zf24_2
         try clear zf25_0
         try clear zf25_1
         try clear zf25_2
         try clear zf27_0
         try clear zf27_1
         try clear zf27_2
         try clear zf34_0
         try clear zf34_1
         try clear zf34_2
         try clear zf35_0
         try clear zf35_1
         try clear zf35_2
         try clear zf38_0
         try clear zf38_1
         try clear zf38_2
         try clear zf39_0
         try clear zf39_1
         try clear zf39_2
         try clear zf43_0
         try clear zf43_1
         try clear zf43_2
         try clear zf44_0
         try clear zf44_1
         try clear zf44_2
         try clear zf46_0
         try clear zf46_1
         try clear zf46_2
         try clear zf47_0
         try clear zf47_1
         try clear zf47_2
         try clear zf51_0
         try clear zf51_1
         try clear zf51_2
         try clear zf52_0
         try clear zf52_1
         try clear zf52_2
         try clear zf54_0
         try clear zf54_1
         try clear zf54_2
         try clear zf55_0
         try clear zf55_1
         try clear zf55_2
         try clear zf57_0
         try clear zf57_1
         try clear zf57_2
         try clear zf58_0
         try clear zf58_1
         try clear zf58_2
         try clear p2
         obtain ⟨kq, x14_28, rfl, HA, HJ28, BK285, BK286, HB⟩ := hcut
         cases kq with
         | zero => exact absurd HA.out (by simp [lockgateref14_Compare.j2])
         | succ kj28 =>
          have H := HA.out
          clear HA
          simp only [lockgateref14_Compare.j2] at H
          have HC59 := Aside0.mk H
          clear H
          go_upto_region 9 with (fail)
          go_cut [81] (fun v81 wc => ∃ (kq : Nat) (x81_58 : Bool), v81 = .bool x81_58 ∧ Aside0 (lockgateref14_Compare.j3 kq a0 a1 a4 x14_28 x81_58 a2_0 a2_1 a2_2 a3_0 a3_1 a3_2 = some (r1, r2)) ∧ Aside0 (kq ≤ kj28) ∧ Aside0 (wc.heap[gb285]? = some (.cells #[.int .i64 a2_0, .int .u64 a2_1, .int .i64 a2_2] 24 (0, 0))) ∧ Aside0 (wc.heap[gb286]? = some (.cells #[.int .i64 a3_0, .int .u64 a3_1, .int .i64 a3_2] 24 (0, 0))) ∧ Aside0 (Below w.heap.size w wc))
          case first =>
           have H := HC59.out
           clear HC59
           by_cases c60 : a1 = true
           ·subst c60
            have H1 : (if x14_28 = true then (lockgateref14_Compare.j3 kj28 a0 true a4 x14_28 (a0 == 1) a2_0 a2_1 a2_2 a3_0 a3_1 a3_2) else (lockgateref14_Compare.j3 kj28 a0 true a4 x14_28 false a2_0 a2_1 a2_2 a3_0 a3_1 a3_2)) = some (r1, r2) := by rw [if_pos rfl] at H; exact H
            clear H
            have H := H1
            clear H1
            by_cases c61 : x14_28 = true
            ·subst c61
             have H1 : (lockgateref14_Compare.j3 kj28 a0 true a4 true (a0 == 1) a2_0 a2_1 a2_2 a3_0 a3_1 a3_2) = some (r1, r2) := by rw [if_pos rfl] at H; exact H
             clear H
             have H := H1
             clear H1
             have H' := Aside0.mk H
             clear H
             go_wp2
             go_meet
             case rel => exact ⟨_, ((a0 == 1)), (by first | rfl | (simp; done) | (simp [*]; done)), H', ⟨by have := HJ7.out; have := HJ20.out; have := HJ28.out; first | omega | exact Nat.le_refl _⟩, ⟨bk_⟩, ⟨bk_⟩, ⟨bz_⟩⟩
            ·replace c61 := Bool.eq_false_iff.mpr c61
             subst c61
             have H1 : (lockgateref14_Compare.j3 kj28 a0 true a4 false false a2_0 a2_1 a2_2 a3_0 a3_1 a3_2) = some (r1, r2) := by rw [if_neg (show ¬ (false = true) by decide)] at H; exact H
             clear H
             have H := H1
             clear H1
             have H' := Aside0.mk H
             clear H
             go_wp2
             go_meet
             case rel => exact ⟨_, (false), (by first | rfl | (simp; done) | (simp [*]; done)), H', ⟨by have := HJ7.out; have := HJ20.out; have := HJ28.out; first | omega | exact Nat.le_refl _⟩, ⟨bk_⟩, ⟨bk_⟩, ⟨bz_⟩⟩
           ·replace c60 := Bool.eq_false_iff.mpr c60
            subst c60
            have H1 : (lockgateref14_Compare.j3 kj28 a0 false a4 x14_28 false a2_0 a2_1 a2_2 a3_0 a3_1 a3_2) = some (r1, r2) := by rw [if_neg (show ¬ (false = true) by decide)] at H; exact H
            clear H
            have H := H1
            clear H1
            have H' := Aside0.mk H
            clear H
            go_wp2
            go_meet
            case rel => exact ⟨_, (false), (by first | rfl | (simp; done) | (simp [*]; done)), H', ⟨by have := HJ7.out; have := HJ20.out; have := HJ28.out; first | omega | exact Nat.le_refl _⟩, ⟨bk_⟩, ⟨bk_⟩, ⟨bz_⟩⟩
          case rest =>
           clear HC59
           try clear c1
           try clear c2
           try clear p2
           try clear c3
           try clear c4
           try clear c5
           try clear c6
           try clear c7
           try clear c11
           try clear c14
           try clear c14b0
           try clear c14b1
           try clear c15
           try clear c17
           try clear c20
           try clear c21
           try clear c22
           try clear c22b0
           try clear c22b1
           try clear c23
           try clear c26
           try clear c28
           try clear c30
           try clear c30b0
           try clear c30b1
           try clear c31
           try clear c31b0
           try clear c31b1
           try clear c32
           try clear c32b0
           try clear c32b1
           try clear c33
           try clear c36
           try clear c36b0
           try clear c36b1
           try clear c37
           try clear c40
           try clear c40b0
           try clear c40b1
           try clear c41
           try clear c41b0
           try clear c41b1
           try clear c42
           try clear c45
           try clear c48
           try clear c48b0
           try clear c48b1
           try clear c49
           try clear c49b0
           try clear c49b1
           try clear c50
           try clear c53
           try clear c56
           try clear c60
           try clear c61
           try clear zc12_0
           try clear zc12_1
           try clear zc12_2
           try clear zc13_0
           try clear zc13_1
           try clear zc13_2
           try clear zc16_0
           try clear zc16_1
           try clear zc16_2
           try clear zc18_0
           try clear zc18_1
           try clear zc18_2
           try clear zc19_0
           try clear zc19_1
           try clear zc19_2
           try clear zc24_0
           try clear zc24_1
           try clear zc24_2
           try clear zc25_0
           try clear zc25_1
           try clear zc25_2
           try clear zc27_0
           try clear zc27_1
           try clear zc27_2
           try clear zc34_0
           try clear zc34_1
           try clear zc34_2
           try clear zc35_0
           try clear zc35_1
           try clear zc35_2
           try clear zc38_0
           try clear zc38_1
           try clear zc38_2
           try clear zc39_0
           try clear zc39_1
           try clear zc39_2
           try clear zc43_0
           try clear zc43_1
           try clear zc43_2
           try clear zc44_0
           try clear zc44_1
           try clear zc44_2
           try clear zc46_0
           try clear zc46_1
           try clear zc46_2
           try clear zc47_0
           try clear zc47_1
           try clear zc47_2
           try clear zc51_0
           try clear zc51_1
           try clear zc51_2
           try clear zc52_0
           try clear zc52_1
           try clear zc52_2
           try clear zc54_0
           try clear zc54_1
           try clear zc54_2
           try clear zc55_0
           try clear zc55_1
           try clear zc55_2
           try clear zc57_0
           try clear zc57_1
           try clear zc57_2
           try clear zc58_0
           try clear zc58_1
           try clear zc58_2
           try clear zf12_0
           try clear zf12_1
           try clear zf12_2
           try clear zf13_0
           try clear zf13_1
           try clear zf13_2
           try clear zf16_0
           try clear zf16_1
           try clear zf16_2
           try clear zf18_0
           try clear zf18_1
           try clear zf18_2
           try clear zf19_0
           try clear zf19_1
           try clear zf19_2
           try clear zf24_0
           try clear zf24_1
           try clear zf24_2
           try clear zf25_0
           try clear zf25_1
           try clear zf25_2
           try clear zf27_0
           try clear zf27_1
           try clear zf27_2
           try clear zf34_0
           try clear zf34_1
           try clear zf34_2
           try clear zf35_0
           try clear zf35_1
           try clear zf35_2
           try clear zf38_0
           try clear zf38_1
           try clear zf38_2
           try clear zf39_0
           try clear zf39_1
           try clear zf39_2
           try clear zf43_0
           try clear zf43_1
           try clear zf43_2
           try clear zf44_0
           try clear zf44_1
           try clear zf44_2
           try clear zf46_0
           try clear zf46_1
           try clear zf46_2
           try clear zf47_0
           try clear zf47_1
           try clear zf47_2
           try clear zf51_0
           try clear zf51_1
           try clear zf51_2
           try clear zf52_0
           try clear zf52_1
           try clear zf52_2
           try clear zf54_0
           try clear zf54_1
           try clear zf54_2
           try clear zf55_0
           try clear zf55_1
           try clear zf55_2
           try clear zf57_0
           try clear zf57_1
           try clear zf57_2
           try clear zf58_0
           try clear zf58_1
           try clear zf58_2
           try clear p2
           obtain ⟨kq, x81_58, rfl, HA, HJ58, BK285, BK286, HB⟩ := hcut
           cases kq with
           | zero => exact absurd HA.out (by simp [lockgateref14_Compare.j3])
           | succ kj58 =>
            have H := HA.out
            clear HA
            simp only [lockgateref14_Compare.j3] at H
            by_cases c62 : x81_58 = true
            ·subst c62
             have H1 : (some (false, 0)) = some (r1, r2) := by rw [if_pos rfl] at H; exact H
             clear H
             have H := H1
             clear H1
             simp only [Option.some.injEq, Prod.mk.injEq] at H
             obtain ⟨rfl, rfl⟩ := H
             go_wp2
             go_ret2
             exact ⟨vv_, bz_⟩
            ·replace c62 := Bool.eq_false_iff.mpr c62
             subst c62
             have H1 : (if a1 = true then (if x14_28 = true then (lockgateref14_Compare.j4 kj58 a0 a1 a4 (a0 == 5) a2_0 a2_1 a2_2 a3_0 a3_1 a3_2) else (lockgateref14_Compare.j4 kj58 a0 a1 a4 false a2_0 a2_1 a2_2 a3_0 a3_1 a3_2)) else (lockgateref14_Compare.j4 kj58 a0 a1 a4 false a2_0 a2_1 a2_2 a3_0 a3_1 a3_2)) = some (r1, r2) := by rw [if_neg (show ¬ (false = true) by decide)] at H; exact H
             clear H
             have H := H1
             clear H1
             have HC63 := Aside0.mk H
             clear H
             go_upto_region 11 with (fail)
             go_cut [89] (fun v89 wc => ∃ (kq : Nat) (x89_62 : Bool), v89 = .bool x89_62 ∧ Aside0 (lockgateref14_Compare.j4 kq a0 a1 a4 x89_62 a2_0 a2_1 a2_2 a3_0 a3_1 a3_2 = some (r1, r2)) ∧ Aside0 (kq ≤ kj58) ∧ Aside0 (wc.heap[gb285]? = some (.cells #[.int .i64 a2_0, .int .u64 a2_1, .int .i64 a2_2] 24 (0, 0))) ∧ Aside0 (wc.heap[gb286]? = some (.cells #[.int .i64 a3_0, .int .u64 a3_1, .int .i64 a3_2] 24 (0, 0))) ∧ Aside0 (Below w.heap.size w wc))
             case first =>
              have H := HC63.out
              clear HC63
              by_cases c64 : a1 = true
              ·subst c64
               have H1 : (if x14_28 = true then (lockgateref14_Compare.j4 kj58 a0 true a4 (a0 == 5) a2_0 a2_1 a2_2 a3_0 a3_1 a3_2) else (lockgateref14_Compare.j4 kj58 a0 true a4 false a2_0 a2_1 a2_2 a3_0 a3_1 a3_2)) = some (r1, r2) := by rw [if_pos rfl] at H; exact H
               clear H
               have H := H1
               clear H1
               by_cases c65 : x14_28 = true
               ·subst c65
                have H1 : (lockgateref14_Compare.j4 kj58 a0 true a4 (a0 == 5) a2_0 a2_1 a2_2 a3_0 a3_1 a3_2) = some (r1, r2) := by rw [if_pos rfl] at H; exact H
                clear H
                have H := H1
                clear H1
                have H' := Aside0.mk H
                clear H
                go_wp2
                go_meet
                case rel => exact ⟨_, ((a0 == 5)), (by first | rfl | (simp; done) | (simp [*]; done)), H', ⟨by have := HJ7.out; have := HJ20.out; have := HJ28.out; have := HJ58.out; first | omega | exact Nat.le_refl _⟩, ⟨bk_⟩, ⟨bk_⟩, ⟨bz_⟩⟩
               ·replace c65 := Bool.eq_false_iff.mpr c65
                subst c65
                have H1 : (lockgateref14_Compare.j4 kj58 a0 true a4 false a2_0 a2_1 a2_2 a3_0 a3_1 a3_2) = some (r1, r2) := by rw [if_neg (show ¬ (false = true) by decide)] at H; exact H
                clear H
                have H := H1
                clear H1
                have H' := Aside0.mk H
                clear H
                go_wp2
                go_meet
                case rel => exact ⟨_, (false), (by first | rfl | (simp; done) | (simp [*]; done)), H', ⟨by have := HJ7.out; have := HJ20.out; have := HJ28.out; have := HJ58.out; first | omega | exact Nat.le_refl _⟩, ⟨bk_⟩, ⟨bk_⟩, ⟨bz_⟩⟩
              ·replace c64 := Bool.eq_false_iff.mpr c64
               subst c64
               have H1 : (lockgateref14_Compare.j4 kj58 a0 false a4 false a2_0 a2_1 a2_2 a3_0 a3_1 a3_2) = some (r1, r2) := by rw [if_neg (show ¬ (false = true) by decide)] at H; exact H
               clear H
               have H := H1
               clear H1
               have H' := Aside0.mk H
               clear H
               go_wp2
               go_meet
               case rel => exact ⟨_, (false), (by first | rfl | (simp; done) | (simp [*]; done)), H', ⟨by have := HJ7.out; have := HJ20.out; have := HJ28.out; have := HJ58.out; first | omega | exact Nat.le_refl _⟩, ⟨bk_⟩, ⟨bk_⟩, ⟨bz_⟩⟩
             case rest =>
              clear HC63
              try clear c1
              try clear c2
              try clear p2
              try clear c3
              try clear c4
              try clear c5
              try clear c6
              try clear c7
              try clear c11
              try clear c14
              try clear c14b0
              try clear c14b1
              try clear c15
              try clear c17
              try clear c20
              try clear c21
              try clear c22
              try clear c22b0
              try clear c22b1
              try clear c23
              try clear c26
              try clear c28
              try clear c30
              try clear c30b0
              try clear c30b1
              try clear c31
              try clear c31b0
              try clear c31b1
              try clear c32
              try clear c32b0
              try clear c32b1
              try clear c33
              try clear c36
              try clear c36b0
              try clear c36b1
              try clear c37
              try clear c40
              try clear c40b0
              try clear c40b1
              try clear c41
              try clear c41b0
              try clear c41b1
              try clear c42
              try clear c45
              try clear c48
              try clear c48b0
              try clear c48b1
              try clear c49
              try clear c49b0
              try clear c49b1
              try clear c50
              try clear c53
              try clear c56
              try clear c60
              try clear c61
              try clear c62
              try clear c64
              try clear c65
              try clear zc12_0
              try clear zc12_1
              try clear zc12_2
              try clear zc13_0
              try clear zc13_1
              try clear zc13_2
              try clear zc16_0
              try clear zc16_1
              try clear zc16_2
              try clear zc18_0
              try clear zc18_1
              try clear zc18_2
              try clear zc19_0
              try clear zc19_1
              try clear zc19_2
              try clear zc24_0
              try clear zc24_1
              try clear zc24_2
              try clear zc25_0
              try clear zc25_1
              try clear zc25_2
              try clear zc27_0
              try clear zc27_1
              try clear zc27_2
              try clear zc34_0
              try clear zc34_1
              try clear zc34_2
              try clear zc35_0
              try clear zc35_1
              try clear zc35_2
              try clear zc38_0
              try clear zc38_1
              try clear zc38_2
              try clear zc39_0
              try clear zc39_1
              try clear zc39_2
              try clear zc43_0
              try clear zc43_1
              try clear zc43_2
              try clear zc44_0
              try clear zc44_1
              try clear zc44_2
              try clear zc46_0
              try clear zc46_1
              try clear zc46_2
              try clear zc47_0
              try clear zc47_1
              try clear zc47_2
              try clear zc51_0
              try clear zc51_1
              try clear zc51_2
              try clear zc52_0
              try clear zc52_1
              try clear zc52_2
              try clear zc54_0
              try clear zc54_1
              try clear zc54_2
              try clear zc55_0
              try clear zc55_1
              try clear zc55_2
              try clear zc57_0
              try clear zc57_1
              try clear zc57_2
              try clear zc58_0
              try clear zc58_1
              try clear zc58_2
              try clear zf12_0
              try clear zf12_1
              try clear zf12_2
              try clear zf13_0
              try clear zf13_1
              try clear zf13_2
              try clear zf16_0
              try clear zf16_1
              try clear zf16_2
              try clear zf18_0
              try clear zf18_1
              try clear zf18_2
              try clear zf19_0
              try clear zf19_1
              try clear zf19_2
              try clear zf24_0
              try clear zf24_1
              try clear zf24_2
              try clear zf25_0
              try clear zf25_1
              try clear zf25_2
              try clear zf27_0
              try clear zf27_1
              try clear zf27_2
              try clear zf34_0
              try clear zf34_1
              try clear zf34_2
              try clear zf35_0
              try clear zf35_1
              try clear zf35_2
              try clear zf38_0
              try clear zf38_1
              try clear zf38_2
              try clear zf39_0
              try clear zf39_1
              try clear zf39_2
              try clear zf43_0
              try clear zf43_1
              try clear zf43_2
              try clear zf44_0
              try clear zf44_1
              try clear zf44_2
              try clear zf46_0
              try clear zf46_1
              try clear zf46_2
              try clear zf47_0
              try clear zf47_1
              try clear zf47_2
              try clear zf51_0
              try clear zf51_1
              try clear zf51_2
              try clear zf52_0
              try clear zf52_1
              try clear zf52_2
              try clear zf54_0
              try clear zf54_1
              try clear zf54_2
              try clear zf55_0
              try clear zf55_1
              try clear zf55_2
              try clear zf57_0
              try clear zf57_1
              try clear zf57_2
              try clear zf58_0
              try clear zf58_1
              try clear zf58_2
              try clear p2
              obtain ⟨kq, x89_62, rfl, HA, HJ62, BK285, BK286, HB⟩ := hcut
              cases kq with
              | zero => exact absurd HA.out (by simp [lockgateref14_Compare.j4])
              | succ kj62 =>
               have H := HA.out
               clear HA
               simp only [lockgateref14_Compare.j4] at H
               by_cases c66 : x89_62 = true
               ·subst c66
                have H1 : (some (true, 0)) = some (r1, r2) := by rw [if_pos rfl] at H; exact H
                clear H
                have H := H1
                clear H1
                simp only [Option.some.injEq, Prod.mk.injEq] at H
                obtain ⟨rfl, rfl⟩ := H
                go_wp2
                go_ret2
                exact ⟨vv_, bz_⟩
               ·replace c66 := Bool.eq_false_iff.mpr c66
                subst c66
                have H1 : (if a2_0 = 2 then (lockgateref14_Compare.j5 kj62 a0 a1 a4 (wrap64 (a2_1)) (wrap64 (a3_1)) (a3_0 == 3) a2_0 a2_1 a2_2 a3_0 a3_1 a3_2) else (lockgateref14_Compare.j5 kj62 a0 a1 a4 (wrap64 (a2_1)) (wrap64 (a3_1)) false a2_0 a2_1 a2_2 a3_0 a3_1 a3_2)) = some (r1, r2) := by rw [if_neg (show ¬ (false = true) by decide)] at H; exact H
                clear H
                have H := H1
                clear H1
                have HC67 := Aside0.mk H
                clear H
                have hnb68 := NB285_286.out
                have hnc68 := NB286_285.out
                obtain ⟨zc69_0, zc69_1, zc69_2, zf69_0, zf69_1, zf69_2⟩ := k3_ BK285
                obtain ⟨zc70_0, zc70_1, zc70_2, zf70_0, zf70_1, zf70_2⟩ := k3_ BK286
                go_upto_region 15 with (fail)
                go_cut [103] (fun v103 wc => ∃ (kq : Nat) (x103_66 : Bool), v103 = .bool x103_66 ∧ Aside0 (lockgateref14_Compare.j5 kq a0 a1 a4 (wrap64 (a2_1)) (wrap64 (a3_1)) x103_66 a2_0 a2_1 a2_2 a3_0 a3_1 a3_2 = some (r1, r2)) ∧ Aside0 (kq ≤ kj62) ∧ Aside0 (wc.heap[gb285]? = some (.cells #[.int .i64 a2_0, .int .u64 a2_1, .int .i64 a2_2] 24 (0, 0))) ∧ Aside0 (wc.heap[gb286]? = some (.cells #[.int .i64 a3_0, .int .u64 a3_1, .int .i64 a3_2] 24 (0, 0))) ∧ Aside0 (Below w.heap.size w wc))
                case first =>
                 have H := HC67.out
                 clear HC67
                 by_cases c71 : a2_0 = 2
                 ·rw [if_pos c71] at H
                  have c71b0 : (a2_0 == 2) = true := beq_iff_eq.mpr c71
                  have c71b1 : (a2_0 != 2) = false := bne_eq_false_iff_eq.mpr c71
                  clear c71
                  (first | rw [c71b0] | (simp only [i64_w, i32_w]; rw [c71b0]) | skip)
                  have H' := Aside0.mk H
                  clear H
                  have hnb72 := NB285_286.out
                  have hnc72 := NB286_285.out
                  obtain ⟨zc73_0, zc73_1, zc73_2, zf73_0, zf73_1, zf73_2⟩ := k3_ BK285
                  obtain ⟨zc74_0, zc74_1, zc74_2, zf74_0, zf74_1, zf74_2⟩ := k3_ BK286
                  go_wp2
                  go_meet
                  case rel => exact ⟨_, ((a3_0 == 3)), (by first | rfl | (simp; done) | (simp [*]; done)), H', ⟨by have := HJ7.out; have := HJ20.out; have := HJ28.out; have := HJ58.out; have := HJ62.out; first | omega | exact Nat.le_refl _⟩, ⟨bk_⟩, ⟨bk_⟩, ⟨bz_⟩⟩
                 ·rw [if_neg c71] at H
                  have c71b0 : (a2_0 == 2) = false := beq_eq_false_iff_ne.mpr c71
                  have c71b1 : (a2_0 != 2) = true := bne_iff_ne.mpr c71
                  (first | rw [c71b0] | (simp only [i64_w, i32_w]; rw [c71b0]) | skip)
                  have H' := Aside0.mk H
                  clear H
                  have hnb75 := NB285_286.out
                  have hnc75 := NB286_285.out
                  obtain ⟨zc76_0, zc76_1, zc76_2, zf76_0, zf76_1, zf76_2⟩ := k3_ BK285
                  go_wp2
                  go_meet
                  case rel => exact ⟨_, (false), (by first | rfl | (simp; done) | (simp [*]; done)), H', ⟨by have := HJ7.out; have := HJ20.out; have := HJ28.out; have := HJ58.out; have := HJ62.out; first | omega | exact Nat.le_refl _⟩, ⟨bk_⟩, ⟨bk_⟩, ⟨bz_⟩⟩
                case rest =>
                 clear HC67
                 try clear c1
                 try clear c2
                 try clear p2
                 try clear c3
                 try clear c4
                 try clear c5
                 try clear c6
                 try clear p6
                 try clear c7
                 try clear c11
                 try clear c14
                 try clear c14b0
                 try clear c14b1
                 try clear c15
                 try clear c17
                 try clear c20
                 try clear c21
                 try clear c22
                 try clear c22b0
                 try clear c22b1
                 try clear c23
                 try clear c26
                 try clear c28
                 try clear c30
                 try clear c30b0
                 try clear c30b1
                 try clear c31
                 try clear c31b0
                 try clear c31b1
                 try clear c32
                 try clear c32b0
                 try clear c32b1
                 try clear c33
                 try clear c36
                 try clear c36b0
                 try clear c36b1
                 try clear c37
                 try clear c40
                 try clear c40b0
                 try clear c40b1
                 try clear c41
                 try clear c41b0
                 try clear c41b1
                 try clear c42
                 try clear c45
                 try clear c48
                 try clear c48b0
                 try clear c48b1
                 try clear c49
                 try clear c49b0
                 try clear c49b1
                 try clear c50
                 try clear c53
                 try clear c56
                 try clear c60
                 try clear c61
                 try clear c62
                 try clear c64
                 try clear p64
                 try clear c65
                 try clear c66
                 try clear c68
                 try clear c71
                 try clear c71b0
                 try clear c71b1
                 try clear c72
                 try clear c75
                 try clear zc12_0
                 try clear zc12_1
                 try clear zc12_2
                 try clear zc13_0
                 try clear zc13_1
                 try clear zc13_2
                 try clear zc16_0
                 try clear zc16_1
                 try clear zc16_2
                 try clear zc18_0
                 try clear zc18_1
                 try clear zc18_2
                 try clear zc19_0
                 try clear zc19_1
                 try clear zc19_2
                 try clear zc24_0
                 try clear zc24_1
                 try clear zc24_2
                 try clear zc25_0
                 try clear zc25_1
                 try clear zc25_2
                 try clear zc27_0
                 try clear zc27_1
                 try clear zc27_2
                 try clear zc34_0
                 try clear zc34_1
                 try clear zc34_2
                 try clear zc35_0
                 try clear zc35_1
                 try clear zc35_2
                 try clear zc38_0
                 try clear zc38_1
                 try clear zc38_2
                 try clear zc39_0
                 try clear zc39_1
                 try clear zc39_2
                 try clear zc43_0
                 try clear zc43_1
                 try clear zc43_2
                 try clear zc44_0
                 try clear zc44_1
                 try clear zc44_2
                 try clear zc46_0
                 try clear zc46_1
                 try clear zc46_2
                 try clear zc47_0
                 try clear zc47_1
                 try clear zc47_2
                 try clear zc51_0
                 try clear zc51_1
                 try clear zc51_2
                 try clear zc52_0
                 try clear zc52_1
                 try clear zc52_2
                 try clear zc54_0
                 try clear zc54_1
                 try clear zc54_2
                 try clear zc55_0
                 try clear zc55_1
                 try clear zc55_2
                 try clear zc57_0
                 try clear zc57_1
                 try clear zc57_2
                 try clear zc58_0
                 try clear zc58_1
                 try clear zc58_2
                 try clear zc69_0
                 try clear zc69_1
                 try clear zc69_2
                 try clear zc70_0
                 try clear zc70_1
                 try clear zc70_2
                 try clear zc73_0
                 try clear zc73_1
                 try clear zc73_2
                 try clear zc74_0
                 try clear zc74_1
                 try clear zc74_2
                 try clear zc76_0
                 try clear zc76_1
                 try clear zc76_2
                 try clear zf12_0
                 try clear zf12_1
                 try clear zf12_2
                 try clear zf13_0
                 try clear zf13_1
                 try clear zf13_2
                 try clear zf16_0
                 try clear zf16_1
                 try clear zf16_2
                 try clear zf18_0
                 try clear zf18_1
                 try clear zf18_2
                 try clear zf19_0
                 try clear zf19_1
                 try clear zf19_2
                 try clear zf24_0
                 try clear zf24_1
                 try clear zf24_2
                 try clear zf25_0
                 try clear zf25_1
                 try clear zf25_2
                 try clear zf27_0
                 try clear zf27_1
                 try clear zf27_2
                 try clear zf34_0
                 try clear zf34_1
                 try clear zf34_2
                 try clear zf35_0
                 try clear zf35_1
                 try clear zf35_2
                 try clear zf38_0
                 try clear zf38_1
                 try clear zf38_2
                 try clear zf39_0
                 try clear zf39_1
                 try clear zf39_2
                 try clear zf43_0
                 try clear zf43_1
                 try clear zf43_2
                 try clear zf44_0
                 try clear zf44_1
                 try clear zf44_2
                 try clear zf46_0
                 try clear zf46_1
                 try clear zf46_2
                 try clear zf47_0
                 try clear zf47_1
                 try clear zf47_2
                 try clear zf51_0
                 try clear zf51_1
                 try clear zf51_2
                 try clear zf52_0
                 try clear zf52_1
                 try clear zf52_2
                 try clear zf54_0
                 try clear zf54_1
                 try clear zf54_2
                 try clear zf55_0
                 try clear zf55_1
                 try clear zf55_2
                 try clear zf57_0
                 try clear zf57_1
                 try clear zf57_2
                 try clear zf58_0
                 try clear zf58_1
                 try clear zf58_2
                 try clear zf69_0
                 try clear zf69_1
                 try clear zf69_2
                 try clear zf70_0
                 try clear zf70_1
                 try clear zf70_2
                 try clear zf73_0
                 try clear zf73_1
                 try clear zf73_2
                 try clear zf74_0
                 try clear zf74_1
                 try clear zf74_2
                 try clear zf76_0
                 try clear zf76_1
                 try clear zf76_2
                 try clear p2
                 obtain ⟨kq, x103_66, rfl, HA, HJ66, BK285, BK286, HB⟩ := hcut
                 cases kq with
                 | zero => exact absurd HA.out (by simp [lockgateref14_Compare.j5])
                 | succ kj66 =>
                  have H := HA.out
                  clear HA
                  simp only [lockgateref14_Compare.j5] at H
                  have HC77 := Aside0.mk H
                  clear H
                  go_upto_if 103 with (fail)
                  go_cut [15, 16] (fun v15 v16 wc => ∃ (kq : Nat) (x15_76 : Int) (x16_76 : Int), v15 = .int .i64 x15_76 ∧ v16 = .int .i64 x16_76 ∧ Aside0 (lockgateref14_Compare.j6 kq a0 a1 x15_76 x16_76 = some (r1, r2)) ∧ Aside0 (kq ≤ kj66) ∧ Aside0 (wc.heap[gb285]? = some (.cells #[.int .i64 a2_0, .int .u64 a2_1, .int .i64 a2_2] 24 (0, 0))) ∧ Aside0 (wc.heap[gb286]? = some (.cells #[.int .i64 a3_0, .int .u64 a3_1, .int .i64 a3_2] 24 (0, 0))) ∧ Aside0 (Below w.heap.size w wc))
                  case first =>
                   have H := HC77.out
                   clear HC77
                   by_cases c78 : x103_66 = true
                   ·subst c78
                    have H1 : (lockgateref14_Compare.j6 kj66 a0 a1 (wrap64 (a2_1)) a4) = some (r1, r2) := by rw [if_pos rfl] at H; exact H
                    clear H
                    have H := H1
                    clear H1
                    have H' := Aside0.mk H
                    clear H
                    go_wp2
                    go_meet
                    case rel => exact ⟨_, ((wrap64 (a2_1))), (a4), (by first | rfl | (simp; done) | (simp [*]; done)), (by first | rfl | (simp; done) | (simp [*]; done)), H', ⟨by have := HJ7.out; have := HJ20.out; have := HJ28.out; have := HJ58.out; have := HJ62.out; have := HJ66.out; first | omega | exact Nat.le_refl _⟩, ⟨bk_⟩, ⟨bk_⟩, ⟨bz_⟩⟩
                   ·replace c78 := Bool.eq_false_iff.mpr c78
                    subst c78
                    have H1 : (if a2_0 = 3 then (if a3_0 = 2 then (lockgateref14_Compare.j6 kj66 a0 a1 a4 (wrap64 (a3_1))) else (some (false, 21))) else (some (false, 21))) = some (r1, r2) := by rw [if_neg (show ¬ (false = true) by decide)] at H; exact H
                    clear H
                    have H := H1
                    clear H1
                    by_cases c79 : a2_0 = 3
                    ·rw [if_pos c79] at H
                     have c79b0 : (a2_0 == 3) = true := beq_iff_eq.mpr c79
                     have c79b1 : (a2_0 != 3) = false := bne_eq_false_iff_eq.mpr c79
                     clear c79
                     (first | rw [c79b0] | (simp only [i64_w, i32_w]; rw [c79b0]) | skip)
                     by_cases c80 : a3_0 = 2
                     ·rw [if_pos c80] at H
                      have c80b0 : (a3_0 == 2) = true := beq_iff_eq.mpr c80
                      have c80b1 : (a3_0 != 2) = false := bne_eq_false_iff_eq.mpr c80
                      clear c80
                      have H' := Aside0.mk H
                      clear H
                      have hnb81 := NB285_286.out
                      have hnc81 := NB286_285.out
                      obtain ⟨zc82_0, zc82_1, zc82_2, zf82_0, zf82_1, zf82_2⟩ := k3_ BK285
                      obtain ⟨zc83_0, zc83_1, zc83_2, zf83_0, zf83_1, zf83_2⟩ := k3_ BK286
                      go_wp2
                      go_meet
                      case rel => exact ⟨_, (a4), ((wrap64 (a3_1))), (by first | rfl | (simp; done) | (simp [*]; done)), (by first | rfl | (simp; done) | (simp [*]; done)), H', ⟨by have := HJ7.out; have := HJ20.out; have := HJ28.out; have := HJ58.out; have := HJ62.out; have := HJ66.out; first | omega | exact Nat.le_refl _⟩, ⟨bk_⟩, ⟨bk_⟩, ⟨bz_⟩⟩
                     ·rw [if_neg c80] at H
                      have c80b0 : (a3_0 == 2) = false := beq_eq_false_iff_ne.mpr c80
                      have c80b1 : (a3_0 != 2) = true := bne_iff_ne.mpr c80
                      simp only [Option.some.injEq, Prod.mk.injEq] at H
                      obtain ⟨rfl, rfl⟩ := H
                      have hnb84 := NB285_286.out
                      have hnc84 := NB286_285.out
                      obtain ⟨zc85_0, zc85_1, zc85_2, zf85_0, zf85_1, zf85_2⟩ := k3_ BK285
                      obtain ⟨zc86_0, zc86_1, zc86_2, zf86_0, zf86_1, zf86_2⟩ := k3_ BK286
                      go_wp2
                      go_ret2
                      exact ⟨vv_, bz_⟩
                    ·rw [if_neg c79] at H
                     have c79b0 : (a2_0 == 3) = false := beq_eq_false_iff_ne.mpr c79
                     have c79b1 : (a2_0 != 3) = true := bne_iff_ne.mpr c79
                     (first | rw [c79b0] | (simp only [i64_w, i32_w]; rw [c79b0]) | skip)
                     simp only [Option.some.injEq, Prod.mk.injEq] at H
                     obtain ⟨rfl, rfl⟩ := H
                     have hnb87 := NB285_286.out
                     have hnc87 := NB286_285.out
                     obtain ⟨zc88_0, zc88_1, zc88_2, zf88_0, zf88_1, zf88_2⟩ := k3_ BK285
                     go_wp2
                     go_ret2
                     exact ⟨vv_, bz_⟩
                  case rest =>
                   clear HC77
                   try clear c1
                   try clear c2
                   try clear p2
                   try clear c3
                   try clear c4
                   try clear c5
                   try clear c6
                   try clear p6
                   try clear c7
                   try clear c8
                   try clear c11
                   try clear c14
                   try clear c14b0
                   try clear c14b1
                   try clear c15
                   try clear c17
                   try clear c20
                   try clear c21
                   try clear c22
                   try clear c22b0
                   try clear c22b1
                   try clear c23
                   try clear c26
                   try clear c28
                   try clear c30
                   try clear c30b0
                   try clear c30b1
                   try clear c31
                   try clear c31b0
                   try clear c31b1
                   try clear c32
                   try clear c32b0
                   try clear c32b1
                   try clear c33
                   try clear c36
                   try clear c36b0
                   try clear c36b1
                   try clear c37
                   try clear c40
                   try clear c40b0
                   try clear c40b1
                   try clear c41
                   try clear c41b0
                   try clear c41b1
                   try clear c42
                   try clear c45
                   try clear c48
                   try clear c48b0
                   try clear c48b1
                   try clear c49
                   try clear c49b0
                   try clear c49b1
                   try clear c50
                   try clear c53
                   try clear c56
                   try clear c60
                   try clear c61
                   try clear c62
                   try clear c64
                   try clear p64
                   try clear c65
                   try clear c66
                   try clear c68
                   try clear c71
                   try clear c71b0
                   try clear c71b1
                   try clear c72
                   try clear c75
                   try clear c78
                   try clear c79
                   try clear c79b0
                   try clear c79b1
                   try clear c80
                   try clear c80b0
                   try clear c80b1
                   try clear c81
                   try clear c84
                   try clear c87
                   try clear zc12_0
                   try clear zc12_1
                   try clear zc12_2
                   try clear zc13_0
                   try clear zc13_1
                   try clear zc13_2
                   try clear zc16_0
                   try clear zc16_1
                   try clear zc16_2
                   try clear zc18_0
                   try clear zc18_1
                   try clear zc18_2
                   try clear zc19_0
                   try clear zc19_1
                   try clear zc19_2
                   try clear zc24_0
                   try clear zc24_1
                   try clear zc24_2
                   try clear zc25_0
                   try clear zc25_1
                   try clear zc25_2
                   try clear zc27_0
                   try clear zc27_1
                   try clear zc27_2
                   try clear zc34_0
                   try clear zc34_1
                   try clear zc34_2
                   try clear zc35_0
                   try clear zc35_1
                   try clear zc35_2
                   try clear zc38_0
                   try clear zc38_1
                   try clear zc38_2
                   try clear zc39_0
                   try clear zc39_1
                   try clear zc39_2
                   try clear zc43_0
                   try clear zc43_1
                   try clear zc43_2
                   try clear zc44_0
                   try clear zc44_1
                   try clear zc44_2
                   try clear zc46_0
                   try clear zc46_1
                   try clear zc46_2
                   try clear zc47_0
                   try clear zc47_1
                   try clear zc47_2
                   try clear zc51_0
                   try clear zc51_1
                   try clear zc51_2
                   try clear zc52_0
                   try clear zc52_1
                   try clear zc52_2
                   try clear zc54_0
                   try clear zc54_1
                   try clear zc54_2
                   try clear zc55_0
                   try clear zc55_1
                   try clear zc55_2
                   try clear zc57_0
                   try clear zc57_1
                   try clear zc57_2
                   try clear zc58_0
                   try clear zc58_1
                   try clear zc58_2
                   try clear zc69_0
                   try clear zc69_1
                   try clear zc69_2
                   try clear zc70_0
                   try clear zc70_1
                   try clear zc70_2
                   try clear zc73_0
                   try clear zc73_1
                   try clear zc73_2
                   try clear zc74_0
                   try clear zc74_1
                   try clear zc74_2
                   try clear zc76_0
                   try clear zc76_1
                   try clear zc76_2
                   try clear zc82_0
                   try clear zc82_1
                   try clear zc82_2
                   try clear zc83_0
                   try clear zc83_1
                   try clear zc83_2
                   try clear zc85_0
                   try clear zc85_1
                   try clear zc85_2
                   try clear zc86_0
                   try clear zc86_1
                   try clear zc86_2
                   try clear zc88_0
                   try clear zc88_1
                   try clear zc88_2
                   try clear zf12_0
                   try clear zf12_1
                   try clear zf12_2
                   try clear zf13_0
                   try clear zf13_1
                   try clear zf13_2
                   try clear zf16_0
                   try clear zf16_1
                   try clear zf16_2
                   try clear zf18_0
                   try clear zf18_1
                   try clear zf18_2
                   try clear zf19_0
                   try clear zf19_1
                   try clear zf19_2
                   try clear zf24_0
                   try clear zf24_1
                   try clear zf24_2
                   try clear zf25_0
                   try clear zf25_1
                   try clear zf25_2
                   try clear zf27_0
                   try clear zf27_1
                   try clear zf27_2
                   try clear zf34_0
                   try clear zf34_1
                   try clear zf34_2
                   try clear zf35_0
                   try clear zf35_1
                   try clear zf35_2
                   try clear zf38_0
                   try clear zf38_1
                   try clear zf38_2
                   try clear zf39_0
                   try clear zf39_1
                   try clear zf39_2
                   try clear zf43_0
                   try clear zf43_1
                   try clear zf43_2
                   try clear zf44_0
                   try clear zf44_1
                   try clear zf44_2
                   try clear zf46_0
                   try clear zf46_1
                   try clear zf46_2
                   try clear zf47_0
                   try clear zf47_1
                   try clear zf47_2
                   try clear zf51_0
                   try clear zf51_1
                   try clear zf51_2
                   try clear zf52_0
                   try clear zf52_1
                   try clear zf52_2
                   try clear zf54_0
                   try clear zf54_1
                   try clear zf54_2
                   try clear zf55_0
                   try clear zf55_1
                   try clear zf55_2
                   try clear zf57_0
                   try clear zf57_1
                   try clear zf57_2
                   try clear zf58_0
                   try clear zf58_1
                   try clear zf58_2
                   try clear zf69_0
                   try clear zf69_1
                   try clear zf69_2
                   try clear zf70_0
                   try clear zf70_1
                   try clear zf70_2
                   try clear zf73_0
                   try clear zf73_1
                   try clear zf73_2
                   try clear zf74_0
                   try clear zf74_1
                   try clear zf74_2
                   try clear zf76_0
                   try clear zf76_1
                   try clear zf76_2
                   try clear zf82_0
                   try clear zf82_1
                   try clear zf82_2
                   try clear zf83_0
                   try clear zf83_1
                   try clear zf83_2
                   try clear zf85_0
                   try clear zf85_1
                   try clear zf85_2
                   try clear zf86_0
                   try clear zf86_1
                   try clear zf86_2
                   try clear zf88_0
                   try clear zf88_1
                   try clear zf88_2
                   try clear p2
                   try clear p6
                   try clear p64
                   obtain ⟨kq, x15_76, x16_76, rfl, rfl, HA, HJ76, BK285, BK286, HB⟩ := hcut
                   cases kq with
                   | zero => exact absurd HA.out (by simp [lockgateref14_Compare.j6])
                   | succ kj76 =>
                    have H := HA.out
                    clear HA
                    simp only [lockgateref14_Compare.j6] at H
                    by_cases c89 : a1 = true
                    ·subst c89
                     have H1 : (if a0 = 2 then (some (decide (x15_76 > x16_76), 0)) else (if a0 = 3 then (some (decide (x15_76 ≥ x16_76), 0)) else (if a0 = 10 then (some (decide (x15_76 < x16_76), 0)) else (if a0 = 11 then (some (decide (x15_76 ≤ x16_76), 0)) else (some (false, 21)))))) = some (r1, r2) := by rw [if_pos rfl] at H; exact H
                     clear H
                     have H := H1
                     clear H1
                     by_cases c90 : a0 = 2
                     ·rw [if_pos c90] at H
                      have c90b0 : (a0 == 2) = true := beq_iff_eq.mpr c90
                      have c90b1 : (a0 != 2) = false := bne_eq_false_iff_eq.mpr c90
                      clear c90
                      simp only [Option.some.injEq, Prod.mk.injEq] at H
                      obtain ⟨rfl, rfl⟩ := H
                      go_wp2
                      go_ret2
                      exact ⟨vv_, bz_⟩
                     ·rw [if_neg c90] at H
                      have c90b0 : (a0 == 2) = false := beq_eq_false_iff_ne.mpr c90
                      have c90b1 : (a0 != 2) = true := bne_iff_ne.mpr c90
                      by_cases c91 : a0 = 3
                      ·rw [if_pos c91] at H
                       have c91b0 : (a0 == 3) = true := beq_iff_eq.mpr c91
                       have c91b1 : (a0 != 3) = false := bne_eq_false_iff_eq.mpr c91
                       clear c91
                       simp only [Option.some.injEq, Prod.mk.injEq] at H
                       obtain ⟨rfl, rfl⟩ := H
                       go_wp2
                       go_ret2
                       exact ⟨vv_, bz_⟩
                      ·rw [if_neg c91] at H
                       have c91b0 : (a0 == 3) = false := beq_eq_false_iff_ne.mpr c91
                       have c91b1 : (a0 != 3) = true := bne_iff_ne.mpr c91
                       by_cases c92 : a0 = 10
                       ·rw [if_pos c92] at H
                        have c92b0 : (a0 == 10) = true := beq_iff_eq.mpr c92
                        have c92b1 : (a0 != 10) = false := bne_eq_false_iff_eq.mpr c92
                        clear c92
                        simp only [Option.some.injEq, Prod.mk.injEq] at H
                        obtain ⟨rfl, rfl⟩ := H
                        go_wp2
                        go_ret2
                        exact ⟨vv_, bz_⟩
                       ·rw [if_neg c92] at H
                        have c92b0 : (a0 == 10) = false := beq_eq_false_iff_ne.mpr c92
                        have c92b1 : (a0 != 10) = true := bne_iff_ne.mpr c92
                        by_cases c93 : a0 = 11
                        ·rw [if_pos c93] at H
                         have c93b0 : (a0 == 11) = true := beq_iff_eq.mpr c93
                         have c93b1 : (a0 != 11) = false := bne_eq_false_iff_eq.mpr c93
                         clear c93
                         simp only [Option.some.injEq, Prod.mk.injEq] at H
                         obtain ⟨rfl, rfl⟩ := H
                         go_wp2
                         go_ret2
                         exact ⟨vv_, bz_⟩
                        ·rw [if_neg c93] at H
                         have c93b0 : (a0 == 11) = false := beq_eq_false_iff_ne.mpr c93
                         have c93b1 : (a0 != 11) = true := bne_iff_ne.mpr c93
                         simp only [Option.some.injEq, Prod.mk.injEq] at H
                         obtain ⟨rfl, rfl⟩ := H
                         go_wp2
                         go_ret2
                         exact ⟨vv_, bz_⟩
                    ·replace c89 := Bool.eq_false_iff.mpr c89
                     subst c89
                     have H1 : (some (false, 21)) = some (r1, r2) := by rw [if_neg (show ¬ (false = true) by decide)] at H; exact H
                     clear H
                     have H := H1
                     clear H1
                     simp only [Option.some.injEq, Prod.mk.injEq] at H
                     obtain ⟨rfl, rfl⟩ := H
                     go_wp2
                     go_ret2
                     exact ⟨vv_, bz_⟩
 ·replace c7 := Bool.eq_false_iff.mpr c7
  subst c7
  have H1 : (some (false, 4)) = some (r1, r2) := by rw [if_neg (show ¬ (false = true) by decide)] at H; exact H
  clear H
  have H := H1
  clear H1
  simp only [Option.some.injEq, Prod.mk.injEq] at H
  obtain ⟨rfl, rfl⟩ := H
  go_enter Try.func21, Try.ntmps21
  go_wp2_with (first | ((with_reducible refine gate_dst (N := 7) rfl ?_); refine bx_ 7 #[.int .i64 a2_0, .int .u64 a2_1, .int .i64 a2_2] 24 ?_; intro gb285 hg w94 BK285 hb; have GW285 := bg_ hg; have GE285 := GW285; replace HB := bl_ hb; clear hb hg) | ((with_reducible refine gate_dst (N := 8) rfl ?_); refine bx_ 8 #[.int .i64 a3_0, .int .u64 a3_1, .int .i64 a3_2] 24 ?_; intro gb286 hg w95 BK286 hb; have GW286 := bg_ hg; have GE286 := GW286; have NB285_286 := bm_ hg BK285; have NB286_285 := bn_ hg BK285; replace BK285 := bb_ hb BK285; replace HB := bl_ hb; clear hb hg; have hnb96 := NB285_286.out; have hnc96 := NB286_285.out; obtain ⟨zc97_0, zc97_1, zc97_2, zf97_0, zf97_1, zf97_2⟩ := k3_ BK285; obtain ⟨zc98_0, zc98_1, zc98_2, zf98_0, zf98_1, zf98_2⟩ := k3_ BK286) | ((with_reducible refine gate_callee (f := 32) rfl ?_); refine gM_ 24 Try.func32 (lockgateref01_Jump.calls k a0 a1 a2_1 a3_1 t287 false _ A6.out) ?_; rintro w' ⟨nd, rfl⟩))
  go_ret2
  exact ⟨vv_, bz_⟩

end Go.Proofs.Ytnpbhippkcikoaa.PA
