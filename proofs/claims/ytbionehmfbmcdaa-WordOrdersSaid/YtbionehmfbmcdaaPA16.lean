-- PRINTED by print.py (a twelfth state) out of the translation. Not trusted: Lean checks it.
import Derived.Test.YtbionehmfbmcdaaPA0
import Derived.Test.YtbionehmfbmcdaaPA10
namespace Go.Proofs.Ytbionehmfbmcdaa.PA
open Go.RowKit Go.Proofs.YtbionehmfbmcdaaW.PrintWords Go.Proofs.YtbionehmfbmcdaaW.PrintLast Go.Proofs.YtbionehmfbmcdaaW.PrintMore
attribute [local go_sem] max2_int min2_int max_two min_two max_three min_three max_four min_four   -- for this text's walks alone
set_option linter.unusedVariables false
set_option linter.unusedSimpArgs false

/-! ### lockgatelaw01_WordOrders: function 8 -/
mutual
def lockgatelaw01_WordOrders.j0 : Nat → Bool → Int → Int → Int → Option (Bool)
  | 0, _, _, _, _ => none
  | k + 1, x0, x1, x2, x7 => (lockgatelaw01_jump.f k 10 x0 x1 x2).bind fun t219 => (if t219 = true then (lockgatelaw01_WordOrders.j1 k x0 x1 x2 x7 (0 + 1) 0) else (lockgatelaw01_WordOrders.j1 k x0 x1 x2 x7 0 0))
def lockgatelaw01_WordOrders.j1 : Nat → Bool → Int → Int → Int → Int → Int → Option (Bool)
  | 0, _, _, _, _, _, _ => none
  | k + 1, x0, x1, x2, x7, x8, x9 => (lockgatelaw01_jump.f k 1 x0 x1 x2).bind fun t220 => (if t220 = true then (lockgatelaw01_WordOrders.j2 k x0 x1 x2 x7 (wrap64 (x8 + 1)) (wrap64 (x9 + 1))) else (lockgatelaw01_WordOrders.j2 k x0 x1 x2 x7 x8 x9))
def lockgatelaw01_WordOrders.j2 : Nat → Bool → Int → Int → Int → Int → Int → Option (Bool)
  | 0, _, _, _, _, _, _ => none
  | k + 1, x0, x1, x2, x7, x8, x9 => (lockgatelaw01_jump.f k 2 x0 x1 x2).bind fun t221 => (if t221 = true then (lockgatelaw01_WordOrders.j3 k x0 x1 x2 x7 (wrap64 (x8 + 1)) x9) else (lockgatelaw01_WordOrders.j3 k x0 x1 x2 x7 x8 x9))
def lockgatelaw01_WordOrders.j3 : Nat → Bool → Int → Int → Int → Int → Int → Option (Bool)
  | 0, _, _, _, _, _, _ => none
  | k + 1, x0, x1, x2, x7, x8, x9 => (lockgatelaw01_jump.f k 12 x0 x1 x2).bind fun t222 => (if t222 = true then (lockgatelaw01_WordOrders.j4 k x0 x1 x2 x7 x8 (wrap64 (x9 + 1))) else (lockgatelaw01_WordOrders.j4 k x0 x1 x2 x7 x8 x9))
def lockgatelaw01_WordOrders.j4 : Nat → Bool → Int → Int → Int → Int → Int → Option (Bool)
  | 0, _, _, _, _, _, _ => none
  | k + 1, x0, x1, x2, x7, x8, x9 => (lockgatelaw01_jump.f k 6 x0 x1 x2).bind fun t223 => (if t223 = true then (lockgatelaw01_WordOrders.j5 k x0 x1 x2 x7 x8 (wrap64 (x9 + 1))) else (lockgatelaw01_WordOrders.j5 k x0 x1 x2 x7 x8 x9))
def lockgatelaw01_WordOrders.j5 : Nat → Bool → Int → Int → Int → Int → Int → Option (Bool)
  | 0, _, _, _, _, _, _ => none
  | k + 1, x0, x1, x2, x7, x8, x9 => if x8 = 1 then (if x9 = 1 then ((lockgatelaw01_jump.f k 5 x0 x1 x2).bind fun t224 => ((lockgatelaw01_jump.f k 1 x0 x1 x2).bind fun t225 => (if (t224 == t225) = true then (lockgatelaw01_WordOrders.j6 k x0 x1 x2 x7 true) else ((lockgatelaw01_jump.f k 3 x0 x1 x2).bind fun t226 => ((lockgatelaw01_jump.f k 10 x0 x1 x2).bind fun t227 => (if (t226 == t227) = true then (lockgatelaw01_WordOrders.j6 k x0 x1 x2 x7 true) else ((lockgatelaw01_jump.f k 11 x0 x1 x2).bind fun t228 => ((lockgatelaw01_jump.f k 2 x0 x1 x2).bind fun t229 => (if (t228 == t229) = true then (lockgatelaw01_WordOrders.j6 k x0 x1 x2 x7 true) else ((lockgatelaw01_jump.f k 7 x0 x1 x2).bind fun t230 => ((lockgatelaw01_jump.f k 12 x0 x1 x2).bind fun t231 => (if (t230 == t231) = true then (lockgatelaw01_WordOrders.j6 k x0 x1 x2 x7 true) else ((lockgatelaw01_jump.f k 13 x0 x1 x2).bind fun t232 => ((lockgatelaw01_jump.f k 6 x0 x1 x2).bind fun t233 => (lockgatelaw01_WordOrders.j6 k x0 x1 x2 x7 (t232 == t233)))))))))))))))) else (lockgatelaw01_WordOrders.j6 k x0 x1 x2 x7 true)) else (lockgatelaw01_WordOrders.j6 k x0 x1 x2 x7 true)
def lockgatelaw01_WordOrders.j6 : Nat → Bool → Int → Int → Int → Bool → Option (Bool)
  | 0, _, _, _, _, _ => none
  | k + 1, x0, x1, x2, x7, x104 => if x104 = true then (some false) else ((lockgatelaw01_jump.f k 2 x0 x1 x2).bind fun t234 => ((lockgatelaw01_jump.f k 10 x0 x2 x1).bind fun t235 => (if (t234 != t235) = true then (lockgatelaw01_WordOrders.j7 k x0 x1 x2 x7 true) else ((lockgatelaw01_jump.f k 6 x0 x1 x2).bind fun t236 => ((lockgatelaw01_jump.f k 12 x0 x2 x1).bind fun t237 => (if (t236 != t237) = true then (lockgatelaw01_WordOrders.j7 k x0 x1 x2 x7 true) else ((lockgatelaw01_jump.f k 4 x0 x1 x2).bind fun t238 => ((lockgatelaw01_alu.f k 5 x0 x1 x2).bind fun t239 => (lockgatelaw01_WordOrders.j7 k x0 x1 x2 x7 (t238 != (t239 != 0)))))))))))
def lockgatelaw01_WordOrders.j7 : Nat → Bool → Int → Int → Int → Bool → Option (Bool)
  | 0, _, _, _, _, _ => none
  | k + 1, x0, x1, x2, x7, x136 => if x136 = true then (some false) else ((lockgatelaw01_jump.f k 12 x0 x1 x2).bind fun t240 => ((lockgatelaw01_jump.f k 10 x0 (IntKind.u64.wrap (x1 + x7)) (IntKind.u64.wrap (x2 + x7))).bind fun t241 => (if (t240 == t241) = true then ((lockgatelaw01_known.f k).bind fun t242 => (some t242)) else (some false))))
end
def lockgatelaw01_WordOrders.f (k : Nat) (a0 : Bool) (a1 : Int) (a2 : Int) : Option (Bool) := if a0 = true then (lockgatelaw01_WordOrders.j0 k a0 a1 a2 9223372036854775808) else (lockgatelaw01_WordOrders.j0 k a0 a1 a2 2147483648)
theorem lockgatelaw01_WordOrders.mono_l : ∀ k, (∀ y0 y1 y2 y3, LeO (lockgatelaw01_WordOrders.j0 k y0 y1 y2 y3) (lockgatelaw01_WordOrders.j0 (k + 1) y0 y1 y2 y3)) ∧ (∀ y0 y1 y2 y3 y4 y5, LeO (lockgatelaw01_WordOrders.j1 k y0 y1 y2 y3 y4 y5) (lockgatelaw01_WordOrders.j1 (k + 1) y0 y1 y2 y3 y4 y5)) ∧ (∀ y0 y1 y2 y3 y4 y5, LeO (lockgatelaw01_WordOrders.j2 k y0 y1 y2 y3 y4 y5) (lockgatelaw01_WordOrders.j2 (k + 1) y0 y1 y2 y3 y4 y5)) ∧ (∀ y0 y1 y2 y3 y4 y5, LeO (lockgatelaw01_WordOrders.j3 k y0 y1 y2 y3 y4 y5) (lockgatelaw01_WordOrders.j3 (k + 1) y0 y1 y2 y3 y4 y5)) ∧ (∀ y0 y1 y2 y3 y4 y5, LeO (lockgatelaw01_WordOrders.j4 k y0 y1 y2 y3 y4 y5) (lockgatelaw01_WordOrders.j4 (k + 1) y0 y1 y2 y3 y4 y5)) ∧ (∀ y0 y1 y2 y3 y4 y5, LeO (lockgatelaw01_WordOrders.j5 k y0 y1 y2 y3 y4 y5) (lockgatelaw01_WordOrders.j5 (k + 1) y0 y1 y2 y3 y4 y5)) ∧ (∀ y0 y1 y2 y3 y4, LeO (lockgatelaw01_WordOrders.j6 k y0 y1 y2 y3 y4) (lockgatelaw01_WordOrders.j6 (k + 1) y0 y1 y2 y3 y4)) ∧ (∀ y0 y1 y2 y3 y4, LeO (lockgatelaw01_WordOrders.j7 k y0 y1 y2 y3 y4) (lockgatelaw01_WordOrders.j7 (k + 1) y0 y1 y2 y3 y4))
  | 0 => ⟨fun _ _ _ _ r h => by simp [lockgatelaw01_WordOrders.j0] at h, fun _ _ _ _ _ _ r h => by simp [lockgatelaw01_WordOrders.j1] at h, fun _ _ _ _ _ _ r h => by simp [lockgatelaw01_WordOrders.j2] at h, fun _ _ _ _ _ _ r h => by simp [lockgatelaw01_WordOrders.j3] at h, fun _ _ _ _ _ _ r h => by simp [lockgatelaw01_WordOrders.j4] at h, fun _ _ _ _ _ _ r h => by simp [lockgatelaw01_WordOrders.j5] at h, fun _ _ _ _ _ r h => by simp [lockgatelaw01_WordOrders.j6] at h, fun _ _ _ _ _ r h => by simp [lockgatelaw01_WordOrders.j7] at h⟩
  | k + 1 => by
    obtain ⟨ih0, ih1, ih2, ih3, ih4, ih5, ih6, ih7⟩ := lockgatelaw01_WordOrders.mono_l k
    refine ⟨?_, ?_, ?_, ?_, ?_, ?_, ?_, ?_⟩
    · intro y0 y1 y2 y3
      unfold lockgatelaw01_WordOrders.j0
      repeat' first
      | (with_reducible exact ih0 _ _ _ _)
      | (with_reducible exact ih1 _ _ _ _ _ _)
      | (with_reducible exact ih2 _ _ _ _ _ _)
      | (with_reducible exact ih3 _ _ _ _ _ _)
      | (with_reducible exact ih4 _ _ _ _ _ _)
      | (with_reducible exact ih5 _ _ _ _ _ _)
      | (with_reducible exact ih6 _ _ _ _ _)
      | (with_reducible exact ih7 _ _ _ _ _)
      | (with_reducible exact lockgatelaw01_alu.mono _ _ _ _ _)
      | (with_reducible exact lockgatelaw01_jump.mono _ _ _ _ _)
      | (with_reducible exact lockgatelaw01_known.mono _)
      | (with_reducible exact LeO.refl _)
      | (with_reducible exact LeO.none _)
      | (with_reducible refine LeO.ite ?_ ?_)
      | (with_reducible refine LeO.bind ?_ (fun _ => ?_))
      | exact ih0 _ _ _ _
      | exact ih1 _ _ _ _ _ _
      | exact ih2 _ _ _ _ _ _
      | exact ih3 _ _ _ _ _ _
      | exact ih4 _ _ _ _ _ _
      | exact ih5 _ _ _ _ _ _
      | exact ih6 _ _ _ _ _
      | exact ih7 _ _ _ _ _
      | exact lockgatelaw01_alu.mono _ _ _ _ _
      | exact lockgatelaw01_jump.mono _ _ _ _ _
      | exact lockgatelaw01_known.mono _
      | exact LeO.none _
      | refine LeO.ite ?_ ?_
      | refine LeO.bind ?_ (fun _ => ?_)
    · intro y0 y1 y2 y3 y4 y5
      unfold lockgatelaw01_WordOrders.j1
      repeat' first
      | (with_reducible exact ih0 _ _ _ _)
      | (with_reducible exact ih1 _ _ _ _ _ _)
      | (with_reducible exact ih2 _ _ _ _ _ _)
      | (with_reducible exact ih3 _ _ _ _ _ _)
      | (with_reducible exact ih4 _ _ _ _ _ _)
      | (with_reducible exact ih5 _ _ _ _ _ _)
      | (with_reducible exact ih6 _ _ _ _ _)
      | (with_reducible exact ih7 _ _ _ _ _)
      | (with_reducible exact lockgatelaw01_alu.mono _ _ _ _ _)
      | (with_reducible exact lockgatelaw01_jump.mono _ _ _ _ _)
      | (with_reducible exact lockgatelaw01_known.mono _)
      | (with_reducible exact LeO.refl _)
      | (with_reducible exact LeO.none _)
      | (with_reducible refine LeO.ite ?_ ?_)
      | (with_reducible refine LeO.bind ?_ (fun _ => ?_))
      | exact ih0 _ _ _ _
      | exact ih1 _ _ _ _ _ _
      | exact ih2 _ _ _ _ _ _
      | exact ih3 _ _ _ _ _ _
      | exact ih4 _ _ _ _ _ _
      | exact ih5 _ _ _ _ _ _
      | exact ih6 _ _ _ _ _
      | exact ih7 _ _ _ _ _
      | exact lockgatelaw01_alu.mono _ _ _ _ _
      | exact lockgatelaw01_jump.mono _ _ _ _ _
      | exact lockgatelaw01_known.mono _
      | exact LeO.none _
      | refine LeO.ite ?_ ?_
      | refine LeO.bind ?_ (fun _ => ?_)
    · intro y0 y1 y2 y3 y4 y5
      unfold lockgatelaw01_WordOrders.j2
      repeat' first
      | (with_reducible exact ih0 _ _ _ _)
      | (with_reducible exact ih1 _ _ _ _ _ _)
      | (with_reducible exact ih2 _ _ _ _ _ _)
      | (with_reducible exact ih3 _ _ _ _ _ _)
      | (with_reducible exact ih4 _ _ _ _ _ _)
      | (with_reducible exact ih5 _ _ _ _ _ _)
      | (with_reducible exact ih6 _ _ _ _ _)
      | (with_reducible exact ih7 _ _ _ _ _)
      | (with_reducible exact lockgatelaw01_alu.mono _ _ _ _ _)
      | (with_reducible exact lockgatelaw01_jump.mono _ _ _ _ _)
      | (with_reducible exact lockgatelaw01_known.mono _)
      | (with_reducible exact LeO.refl _)
      | (with_reducible exact LeO.none _)
      | (with_reducible refine LeO.ite ?_ ?_)
      | (with_reducible refine LeO.bind ?_ (fun _ => ?_))
      | exact ih0 _ _ _ _
      | exact ih1 _ _ _ _ _ _
      | exact ih2 _ _ _ _ _ _
      | exact ih3 _ _ _ _ _ _
      | exact ih4 _ _ _ _ _ _
      | exact ih5 _ _ _ _ _ _
      | exact ih6 _ _ _ _ _
      | exact ih7 _ _ _ _ _
      | exact lockgatelaw01_alu.mono _ _ _ _ _
      | exact lockgatelaw01_jump.mono _ _ _ _ _
      | exact lockgatelaw01_known.mono _
      | exact LeO.none _
      | refine LeO.ite ?_ ?_
      | refine LeO.bind ?_ (fun _ => ?_)
    · intro y0 y1 y2 y3 y4 y5
      unfold lockgatelaw01_WordOrders.j3
      repeat' first
      | (with_reducible exact ih0 _ _ _ _)
      | (with_reducible exact ih1 _ _ _ _ _ _)
      | (with_reducible exact ih2 _ _ _ _ _ _)
      | (with_reducible exact ih3 _ _ _ _ _ _)
      | (with_reducible exact ih4 _ _ _ _ _ _)
      | (with_reducible exact ih5 _ _ _ _ _ _)
      | (with_reducible exact ih6 _ _ _ _ _)
      | (with_reducible exact ih7 _ _ _ _ _)
      | (with_reducible exact lockgatelaw01_alu.mono _ _ _ _ _)
      | (with_reducible exact lockgatelaw01_jump.mono _ _ _ _ _)
      | (with_reducible exact lockgatelaw01_known.mono _)
      | (with_reducible exact LeO.refl _)
      | (with_reducible exact LeO.none _)
      | (with_reducible refine LeO.ite ?_ ?_)
      | (with_reducible refine LeO.bind ?_ (fun _ => ?_))
      | exact ih0 _ _ _ _
      | exact ih1 _ _ _ _ _ _
      | exact ih2 _ _ _ _ _ _
      | exact ih3 _ _ _ _ _ _
      | exact ih4 _ _ _ _ _ _
      | exact ih5 _ _ _ _ _ _
      | exact ih6 _ _ _ _ _
      | exact ih7 _ _ _ _ _
      | exact lockgatelaw01_alu.mono _ _ _ _ _
      | exact lockgatelaw01_jump.mono _ _ _ _ _
      | exact lockgatelaw01_known.mono _
      | exact LeO.none _
      | refine LeO.ite ?_ ?_
      | refine LeO.bind ?_ (fun _ => ?_)
    · intro y0 y1 y2 y3 y4 y5
      unfold lockgatelaw01_WordOrders.j4
      repeat' first
      | (with_reducible exact ih0 _ _ _ _)
      | (with_reducible exact ih1 _ _ _ _ _ _)
      | (with_reducible exact ih2 _ _ _ _ _ _)
      | (with_reducible exact ih3 _ _ _ _ _ _)
      | (with_reducible exact ih4 _ _ _ _ _ _)
      | (with_reducible exact ih5 _ _ _ _ _ _)
      | (with_reducible exact ih6 _ _ _ _ _)
      | (with_reducible exact ih7 _ _ _ _ _)
      | (with_reducible exact lockgatelaw01_alu.mono _ _ _ _ _)
      | (with_reducible exact lockgatelaw01_jump.mono _ _ _ _ _)
      | (with_reducible exact lockgatelaw01_known.mono _)
      | (with_reducible exact LeO.refl _)
      | (with_reducible exact LeO.none _)
      | (with_reducible refine LeO.ite ?_ ?_)
      | (with_reducible refine LeO.bind ?_ (fun _ => ?_))
      | exact ih0 _ _ _ _
      | exact ih1 _ _ _ _ _ _
      | exact ih2 _ _ _ _ _ _
      | exact ih3 _ _ _ _ _ _
      | exact ih4 _ _ _ _ _ _
      | exact ih5 _ _ _ _ _ _
      | exact ih6 _ _ _ _ _
      | exact ih7 _ _ _ _ _
      | exact lockgatelaw01_alu.mono _ _ _ _ _
      | exact lockgatelaw01_jump.mono _ _ _ _ _
      | exact lockgatelaw01_known.mono _
      | exact LeO.none _
      | refine LeO.ite ?_ ?_
      | refine LeO.bind ?_ (fun _ => ?_)
    · intro y0 y1 y2 y3 y4 y5
      unfold lockgatelaw01_WordOrders.j5
      repeat' first
      | (with_reducible exact ih0 _ _ _ _)
      | (with_reducible exact ih1 _ _ _ _ _ _)
      | (with_reducible exact ih2 _ _ _ _ _ _)
      | (with_reducible exact ih3 _ _ _ _ _ _)
      | (with_reducible exact ih4 _ _ _ _ _ _)
      | (with_reducible exact ih5 _ _ _ _ _ _)
      | (with_reducible exact ih6 _ _ _ _ _)
      | (with_reducible exact ih7 _ _ _ _ _)
      | (with_reducible exact lockgatelaw01_alu.mono _ _ _ _ _)
      | (with_reducible exact lockgatelaw01_jump.mono _ _ _ _ _)
      | (with_reducible exact lockgatelaw01_known.mono _)
      | (with_reducible exact LeO.refl _)
      | (with_reducible exact LeO.none _)
      | (with_reducible refine LeO.ite ?_ ?_)
      | (with_reducible refine LeO.bind ?_ (fun _ => ?_))
      | exact ih0 _ _ _ _
      | exact ih1 _ _ _ _ _ _
      | exact ih2 _ _ _ _ _ _
      | exact ih3 _ _ _ _ _ _
      | exact ih4 _ _ _ _ _ _
      | exact ih5 _ _ _ _ _ _
      | exact ih6 _ _ _ _ _
      | exact ih7 _ _ _ _ _
      | exact lockgatelaw01_alu.mono _ _ _ _ _
      | exact lockgatelaw01_jump.mono _ _ _ _ _
      | exact lockgatelaw01_known.mono _
      | exact LeO.none _
      | refine LeO.ite ?_ ?_
      | refine LeO.bind ?_ (fun _ => ?_)
    · intro y0 y1 y2 y3 y4
      unfold lockgatelaw01_WordOrders.j6
      repeat' first
      | (with_reducible exact ih0 _ _ _ _)
      | (with_reducible exact ih1 _ _ _ _ _ _)
      | (with_reducible exact ih2 _ _ _ _ _ _)
      | (with_reducible exact ih3 _ _ _ _ _ _)
      | (with_reducible exact ih4 _ _ _ _ _ _)
      | (with_reducible exact ih5 _ _ _ _ _ _)
      | (with_reducible exact ih6 _ _ _ _ _)
      | (with_reducible exact ih7 _ _ _ _ _)
      | (with_reducible exact lockgatelaw01_alu.mono _ _ _ _ _)
      | (with_reducible exact lockgatelaw01_jump.mono _ _ _ _ _)
      | (with_reducible exact lockgatelaw01_known.mono _)
      | (with_reducible exact LeO.refl _)
      | (with_reducible exact LeO.none _)
      | (with_reducible refine LeO.ite ?_ ?_)
      | (with_reducible refine LeO.bind ?_ (fun _ => ?_))
      | exact ih0 _ _ _ _
      | exact ih1 _ _ _ _ _ _
      | exact ih2 _ _ _ _ _ _
      | exact ih3 _ _ _ _ _ _
      | exact ih4 _ _ _ _ _ _
      | exact ih5 _ _ _ _ _ _
      | exact ih6 _ _ _ _ _
      | exact ih7 _ _ _ _ _
      | exact lockgatelaw01_alu.mono _ _ _ _ _
      | exact lockgatelaw01_jump.mono _ _ _ _ _
      | exact lockgatelaw01_known.mono _
      | exact LeO.none _
      | refine LeO.ite ?_ ?_
      | refine LeO.bind ?_ (fun _ => ?_)
    · intro y0 y1 y2 y3 y4
      unfold lockgatelaw01_WordOrders.j7
      repeat' first
      | (with_reducible exact ih0 _ _ _ _)
      | (with_reducible exact ih1 _ _ _ _ _ _)
      | (with_reducible exact ih2 _ _ _ _ _ _)
      | (with_reducible exact ih3 _ _ _ _ _ _)
      | (with_reducible exact ih4 _ _ _ _ _ _)
      | (with_reducible exact ih5 _ _ _ _ _ _)
      | (with_reducible exact ih6 _ _ _ _ _)
      | (with_reducible exact ih7 _ _ _ _ _)
      | (with_reducible exact lockgatelaw01_alu.mono _ _ _ _ _)
      | (with_reducible exact lockgatelaw01_jump.mono _ _ _ _ _)
      | (with_reducible exact lockgatelaw01_known.mono _)
      | (with_reducible exact LeO.refl _)
      | (with_reducible exact LeO.none _)
      | (with_reducible refine LeO.ite ?_ ?_)
      | (with_reducible refine LeO.bind ?_ (fun _ => ?_))
      | exact ih0 _ _ _ _
      | exact ih1 _ _ _ _ _ _
      | exact ih2 _ _ _ _ _ _
      | exact ih3 _ _ _ _ _ _
      | exact ih4 _ _ _ _ _ _
      | exact ih5 _ _ _ _ _ _
      | exact ih6 _ _ _ _ _
      | exact ih7 _ _ _ _ _
      | exact lockgatelaw01_alu.mono _ _ _ _ _
      | exact lockgatelaw01_jump.mono _ _ _ _ _
      | exact lockgatelaw01_known.mono _
      | exact LeO.none _
      | refine LeO.ite ?_ ?_
      | refine LeO.bind ?_ (fun _ => ?_)
theorem lockgatelaw01_WordOrders.mono : ∀ a0 a1 a2 k, LeO (lockgatelaw01_WordOrders.f k a0 a1 a2) (lockgatelaw01_WordOrders.f (k + 1) a0 a1 a2) := by
  intro a0 a1 a2 k
  obtain ⟨ih0, ih1, ih2, ih3, ih4, ih5, ih6, ih7⟩ := lockgatelaw01_WordOrders.mono_l k
  unfold lockgatelaw01_WordOrders.f
  repeat' first
      | (with_reducible exact ih0 _ _ _ _)
      | (with_reducible exact ih1 _ _ _ _ _ _)
      | (with_reducible exact ih2 _ _ _ _ _ _)
      | (with_reducible exact ih3 _ _ _ _ _ _)
      | (with_reducible exact ih4 _ _ _ _ _ _)
      | (with_reducible exact ih5 _ _ _ _ _ _)
      | (with_reducible exact ih6 _ _ _ _ _)
      | (with_reducible exact ih7 _ _ _ _ _)
      | (with_reducible exact lockgatelaw01_alu.mono _ _ _ _ _)
      | (with_reducible exact lockgatelaw01_jump.mono _ _ _ _ _)
      | (with_reducible exact lockgatelaw01_known.mono _)
      | (with_reducible exact LeO.refl _)
      | (with_reducible exact LeO.none _)
      | (with_reducible refine LeO.ite ?_ ?_)
      | (with_reducible refine LeO.bind ?_ (fun _ => ?_))
      | exact ih0 _ _ _ _
      | exact ih1 _ _ _ _ _ _
      | exact ih2 _ _ _ _ _ _
      | exact ih3 _ _ _ _ _ _
      | exact ih4 _ _ _ _ _ _
      | exact ih5 _ _ _ _ _ _
      | exact ih6 _ _ _ _ _
      | exact ih7 _ _ _ _ _
      | exact lockgatelaw01_alu.mono _ _ _ _ _
      | exact lockgatelaw01_jump.mono _ _ _ _ _
      | exact lockgatelaw01_known.mono _
      | exact LeO.none _
      | refine LeO.ite ?_ ?_
      | refine LeO.bind ?_ (fun _ => ?_)
set_option maxHeartbeats 8000000 in
set_option maxRecDepth 100000 in
theorem lockgatelaw01_WordOrders.calls (k : Nat) (a0 : Bool) (a1 : Int) (a2 : Int) (r : Bool) (w : World) (HRT : Aside0 (r = true)) (h : lockgatelaw01_WordOrders.f k a0 a1 a2 = some r) :
    Calls Try.prog 8 #[.bool a0, .int .u64 a1, .int .u64 a2] w fun e w' => e = .returned (.bool r) ∧ Drawn0 w w' := by
  have H : (if a0 = true then (lockgatelaw01_WordOrders.j0 k a0 a1 a2 9223372036854775808) else (lockgatelaw01_WordOrders.j0 k a0 a1 a2 2147483648)) = some r := h
  clear h
  have HC4 := Aside0.mk H
  clear H
  go_enter Try.func8, Try.ntmps8
  go_upto_if 11 with (fail)
  go_cut [7] (fun v7 wc => ∃ (kq : Nat) (x7_3 : Int), v7 = .int .u64 x7_3 ∧ Aside0 (lockgatelaw01_WordOrders.j0 kq a0 a1 a2 x7_3 = some r) ∧ Aside0 (kq ≤ k) ∧ Drawn0 w wc)
  case first =>
    have H := HC4.out
    clear HC4
    by_cases c5 : a0 = true
    · subst c5
      have H1 : (lockgatelaw01_WordOrders.j0 k true a1 a2 9223372036854775808) = some r := by rw [if_pos rfl] at H; exact H
      clear H
      have H := H1
      clear H1
      have H' := Aside0.mk H
      clear H
      go_wp2
      go_meet
      case rel => exact ⟨_, (9223372036854775808), (by first | rfl | (simp; done) | (simp [wrap64]; done) | (simp [*]; done)), H', ⟨by first | omega | exact Nat.le_refl _⟩, by repeat (first | exact Drawn0.refl _ | apply Drawn0.step)⟩
    · replace c5 := Bool.eq_false_iff.mpr c5
      subst c5
      have H1 : (lockgatelaw01_WordOrders.j0 k false a1 a2 2147483648) = some r := by rw [if_neg (show ¬ (false = true) by decide)] at H; exact H
      clear H
      have H := H1
      clear H1
      have H' := Aside0.mk H
      clear H
      go_wp2
      go_meet
      case rel => exact ⟨_, (2147483648), (by first | rfl | (simp; done) | (simp [wrap64]; done) | (simp [*]; done)), H', ⟨by first | omega | exact Nat.le_refl _⟩, by repeat (first | exact Drawn0.refl _ | apply Drawn0.step)⟩
  case rest =>
    clear HC4
    try clear p2
    try clear c5
    obtain ⟨kq, x7_3, rfl, HA, HJ3, ⟨mc3, rfl⟩⟩ := hcut
    cases kq with
    | zero => exact absurd HA.out (by simp [lockgatelaw01_WordOrders.j0])
    | succ kj3 =>
      have H := HA.out
      clear HA
      simp only [lockgatelaw01_WordOrders.j0] at H
      replace H := Option.bind_eq_some_iff.mp H
      obtain ⟨t219, A60, H⟩ := H
      replace H : (if t219 = true then (lockgatelaw01_WordOrders.j1 kj3 a0 a1 a2 x7_3 (0 + 1) 0) else (lockgatelaw01_WordOrders.j1 kj3 a0 a1 a2 x7_3 0 0)) = some r := H
      have A6 := Aside0.mk A60
      clear A60
      have HC7 := Aside0.mk H
      clear H
      go_upto_if 15 with (first | ((with_reducible refine gate_callee (f := 18) rfl ?_); refine goesL_ (some 15) rfl rfl Try.func18 (by kernel_rfl) rfl #[.int .i64 10, .bool a0, .int .u64 a1, .int .u64 a2] rfl (by (try simp only [List.map_toArray, List.map_cons, List.map_nil]); first | done | rfl | (simp only [List.length_drop, List.length_take]; rfl)) ?_; (with_reducible refine (lockgatelaw01_jump.calls kj3 10 a0 a1 a2 t219 _ A6.out).mono ?_); rintro e w' ⟨rfl, ⟨nd, rfl⟩⟩; refine ⟨_, rfl, ?_⟩))
      (try simp only [Act.put, List.setIfInBounds_toArray, List.set_cons_zero, List.set_cons_succ])
      go_cut [8] (fun v8 wc => ∃ (kq : Nat) (x8_6 : Int), v8 = .int .i64 x8_6 ∧ Aside0 (lockgatelaw01_WordOrders.j1 kq a0 a1 a2 x7_3 x8_6 0 = some r) ∧ Aside0 (kq ≤ kj3) ∧ Drawn0 w wc)
      case first =>
        have H := HC7.out
        clear HC7
        by_cases c8 : t219 = true
        · subst c8
          have H1 : (lockgatelaw01_WordOrders.j1 kj3 a0 a1 a2 x7_3 (0 + 1) 0) = some r := by rw [if_pos rfl] at H; exact H
          clear H
          have H := H1
          clear H1
          have H' := Aside0.mk H
          clear H
          go_wp2
          go_meet
          case rel => exact ⟨_, (0 + 1), (by first | rfl | (simp; done) | (simp [wrap64]; done) | (simp [*]; done)), H', ⟨by have := HJ3.out; first | omega | exact Nat.le_refl _⟩, by repeat (first | exact Drawn0.refl _ | apply Drawn0.step)⟩
        · replace c8 := Bool.eq_false_iff.mpr c8
          subst c8
          have H1 : (lockgatelaw01_WordOrders.j1 kj3 a0 a1 a2 x7_3 0 0) = some r := by rw [if_neg (show ¬ (false = true) by decide)] at H; exact H
          clear H
          have H := H1
          clear H1
          have H' := Aside0.mk H
          clear H
          go_wp2
          go_meet
          case rel => exact ⟨_, (0), (by first | rfl | (simp; done) | (simp [wrap64]; done) | (simp [*]; done)), H', ⟨by have := HJ3.out; first | omega | exact Nat.le_refl _⟩, by repeat (first | exact Drawn0.refl _ | apply Drawn0.step)⟩
      case rest =>
        clear HC7
        try clear c1
        try clear p2
        try clear c3
        try clear c5
        try clear c8
        try clear p2
        obtain ⟨kq, x8_6, rfl, HA, HJ6, ⟨mc6, rfl⟩⟩ := hcut
        cases kq with
        | zero => exact absurd HA.out (by simp [lockgatelaw01_WordOrders.j1])
        | succ kj6 =>
          have H := HA.out
          clear HA
          simp only [lockgatelaw01_WordOrders.j1] at H
          replace H := Option.bind_eq_some_iff.mp H
          obtain ⟨t220, A90, H⟩ := H
          replace H : (if t220 = true then (lockgatelaw01_WordOrders.j2 kj6 a0 a1 a2 x7_3 (wrap64 (x8_6 + 1)) (wrap64 (0 + 1))) else (lockgatelaw01_WordOrders.j2 kj6 a0 a1 a2 x7_3 x8_6 0)) = some r := H
          have A9 := Aside0.mk A90
          clear A90
          have HC10 := Aside0.mk H
          clear H
          go_upto_if 21 with (first | ((with_reducible refine gate_callee (f := 18) rfl ?_); refine goesL_ (some 21) rfl rfl Try.func18 (by kernel_rfl) rfl #[.int .i64 1, .bool a0, .int .u64 a1, .int .u64 a2] rfl (by (try simp only [List.map_toArray, List.map_cons, List.map_nil]); first | done | rfl | (simp only [List.length_drop, List.length_take]; rfl)) ?_; (with_reducible refine (lockgatelaw01_jump.calls kj6 1 a0 a1 a2 t220 _ A9.out).mono ?_); rintro e w' ⟨rfl, ⟨nd, rfl⟩⟩; refine ⟨_, rfl, ?_⟩))
          (try simp only [Act.put, List.setIfInBounds_toArray, List.set_cons_zero, List.set_cons_succ])
          go_cut [8, 9] (fun v8 v9 wc => ∃ (kq : Nat) (x8_9 : Int) (x9_9 : Int), v8 = .int .i64 x8_9 ∧ v9 = .int .i64 x9_9 ∧ Aside0 (lockgatelaw01_WordOrders.j2 kq a0 a1 a2 x7_3 x8_9 x9_9 = some r) ∧ Aside0 (kq ≤ kj6) ∧ Drawn0 w wc)
          case first =>
            have H := HC10.out
            clear HC10
            by_cases c11 : t220 = true
            · subst c11
              have H1 : (lockgatelaw01_WordOrders.j2 kj6 a0 a1 a2 x7_3 (wrap64 (x8_6 + 1)) (wrap64 (0 + 1))) = some r := by rw [if_pos rfl] at H; exact H
              clear H
              have H := H1
              clear H1
              have H' := Aside0.mk H
              clear H
              go_wp2
              go_meet
              case rel => exact ⟨_, (wrap64 (x8_6 + 1)), (wrap64 (0 + 1)), (by first | rfl | (simp; done) | (simp [wrap64]; done) | (simp [*]; done)), (by first | rfl | (simp; done) | (simp [wrap64]; done) | (simp [*]; done)), H', ⟨by have := HJ3.out; have := HJ6.out; first | omega | exact Nat.le_refl _⟩, by repeat (first | exact Drawn0.refl _ | apply Drawn0.step)⟩
            · replace c11 := Bool.eq_false_iff.mpr c11
              subst c11
              have H1 : (lockgatelaw01_WordOrders.j2 kj6 a0 a1 a2 x7_3 x8_6 0) = some r := by rw [if_neg (show ¬ (false = true) by decide)] at H; exact H
              clear H
              have H := H1
              clear H1
              have H' := Aside0.mk H
              clear H
              go_wp2
              go_meet
              case rel => exact ⟨_, (x8_6), (0), (by first | rfl | (simp; done) | (simp [wrap64]; done) | (simp [*]; done)), (by first | rfl | (simp; done) | (simp [wrap64]; done) | (simp [*]; done)), H', ⟨by have := HJ3.out; have := HJ6.out; first | omega | exact Nat.le_refl _⟩, by repeat (first | exact Drawn0.refl _ | apply Drawn0.step)⟩
          case rest =>
            clear HC10
            try clear c1
            try clear p2
            try clear c3
            try clear c5
            try clear c6
            try clear p6
            try clear c8
            try clear c11
            try clear p2
            obtain ⟨kq, x8_9, x9_9, rfl, rfl, HA, HJ9, ⟨mc9, rfl⟩⟩ := hcut
            cases kq with
            | zero => exact absurd HA.out (by simp [lockgatelaw01_WordOrders.j2])
            | succ kj9 =>
              have H := HA.out
              clear HA
              simp only [lockgatelaw01_WordOrders.j2] at H
              replace H := Option.bind_eq_some_iff.mp H
              obtain ⟨t221, A120, H⟩ := H
              replace H : (if t221 = true then (lockgatelaw01_WordOrders.j3 kj9 a0 a1 a2 x7_3 (wrap64 (x8_9 + 1)) x9_9) else (lockgatelaw01_WordOrders.j3 kj9 a0 a1 a2 x7_3 x8_9 x9_9)) = some r := H
              have A12 := Aside0.mk A120
              clear A120
              have HC13 := Aside0.mk H
              clear H
              go_upto_if 29 with (first | ((with_reducible refine gate_callee (f := 18) rfl ?_); refine goesL_ (some 29) rfl rfl Try.func18 (by kernel_rfl) rfl #[.int .i64 2, .bool a0, .int .u64 a1, .int .u64 a2] rfl (by (try simp only [List.map_toArray, List.map_cons, List.map_nil]); first | done | rfl | (simp only [List.length_drop, List.length_take]; rfl)) ?_; (with_reducible refine (lockgatelaw01_jump.calls kj9 2 a0 a1 a2 t221 _ A12.out).mono ?_); rintro e w' ⟨rfl, ⟨nd, rfl⟩⟩; refine ⟨_, rfl, ?_⟩))
              (try simp only [Act.put, List.setIfInBounds_toArray, List.set_cons_zero, List.set_cons_succ])
              go_cut [8] (fun v8 wc => ∃ (kq : Nat) (x8_12 : Int), v8 = .int .i64 x8_12 ∧ Aside0 (lockgatelaw01_WordOrders.j3 kq a0 a1 a2 x7_3 x8_12 x9_9 = some r) ∧ Aside0 (kq ≤ kj9) ∧ Drawn0 w wc)
              case first =>
                have H := HC13.out
                clear HC13
                by_cases c14 : t221 = true
                · subst c14
                  have H1 : (lockgatelaw01_WordOrders.j3 kj9 a0 a1 a2 x7_3 (wrap64 (x8_9 + 1)) x9_9) = some r := by rw [if_pos rfl] at H; exact H
                  clear H
                  have H := H1
                  clear H1
                  have H' := Aside0.mk H
                  clear H
                  go_wp2
                  go_meet
                  case rel => exact ⟨_, (wrap64 (x8_9 + 1)), (by first | rfl | (simp; done) | (simp [wrap64]; done) | (simp [*]; done)), H', ⟨by have := HJ3.out; have := HJ6.out; have := HJ9.out; first | omega | exact Nat.le_refl _⟩, by repeat (first | exact Drawn0.refl _ | apply Drawn0.step)⟩
                · replace c14 := Bool.eq_false_iff.mpr c14
                  subst c14
                  have H1 : (lockgatelaw01_WordOrders.j3 kj9 a0 a1 a2 x7_3 x8_9 x9_9) = some r := by rw [if_neg (show ¬ (false = true) by decide)] at H; exact H
                  clear H
                  have H := H1
                  clear H1
                  have H' := Aside0.mk H
                  clear H
                  go_wp2
                  go_meet
                  case rel => exact ⟨_, (x8_9), (by first | rfl | (simp; done) | (simp [wrap64]; done) | (simp [*]; done)), H', ⟨by have := HJ3.out; have := HJ6.out; have := HJ9.out; first | omega | exact Nat.le_refl _⟩, by repeat (first | exact Drawn0.refl _ | apply Drawn0.step)⟩
              case rest =>
                clear HC13
                try clear c1
                try clear p2
                try clear c3
                try clear c5
                try clear c6
                try clear p6
                try clear c8
                try clear c9
                try clear c11
                try clear c14
                try clear p2
                try clear p6
                obtain ⟨kq, x8_12, rfl, HA, HJ12, ⟨mc12, rfl⟩⟩ := hcut
                cases kq with
                | zero => exact absurd HA.out (by simp [lockgatelaw01_WordOrders.j3])
                | succ kj12 =>
                  have H := HA.out
                  clear HA
                  simp only [lockgatelaw01_WordOrders.j3] at H
                  replace H := Option.bind_eq_some_iff.mp H
                  obtain ⟨t222, A150, H⟩ := H
                  replace H : (if t222 = true then (lockgatelaw01_WordOrders.j4 kj12 a0 a1 a2 x7_3 x8_12 (wrap64 (x9_9 + 1))) else (lockgatelaw01_WordOrders.j4 kj12 a0 a1 a2 x7_3 x8_12 x9_9)) = some r := H
                  have A15 := Aside0.mk A150
                  clear A150
                  have HC16 := Aside0.mk H
                  clear H
                  go_upto_if 35 with (first | ((with_reducible refine gate_callee (f := 18) rfl ?_); refine goesL_ (some 35) rfl rfl Try.func18 (by kernel_rfl) rfl #[.int .i64 12, .bool a0, .int .u64 a1, .int .u64 a2] rfl (by (try simp only [List.map_toArray, List.map_cons, List.map_nil]); first | done | rfl | (simp only [List.length_drop, List.length_take]; rfl)) ?_; (with_reducible refine (lockgatelaw01_jump.calls kj12 12 a0 a1 a2 t222 _ A15.out).mono ?_); rintro e w' ⟨rfl, ⟨nd, rfl⟩⟩; refine ⟨_, rfl, ?_⟩))
                  (try simp only [Act.put, List.setIfInBounds_toArray, List.set_cons_zero, List.set_cons_succ])
                  go_cut [9] (fun v9 wc => ∃ (kq : Nat) (x9_15 : Int), v9 = .int .i64 x9_15 ∧ Aside0 (lockgatelaw01_WordOrders.j4 kq a0 a1 a2 x7_3 x8_12 x9_15 = some r) ∧ Aside0 (kq ≤ kj12) ∧ Drawn0 w wc)
                  case first =>
                    have H := HC16.out
                    clear HC16
                    by_cases c17 : t222 = true
                    · subst c17
                      have H1 : (lockgatelaw01_WordOrders.j4 kj12 a0 a1 a2 x7_3 x8_12 (wrap64 (x9_9 + 1))) = some r := by rw [if_pos rfl] at H; exact H
                      clear H
                      have H := H1
                      clear H1
                      have H' := Aside0.mk H
                      clear H
                      go_wp2
                      go_meet
                      case rel => exact ⟨_, (wrap64 (x9_9 + 1)), (by first | rfl | (simp; done) | (simp [wrap64]; done) | (simp [*]; done)), H', ⟨by have := HJ3.out; have := HJ6.out; have := HJ9.out; have := HJ12.out; first | omega | exact Nat.le_refl _⟩, by repeat (first | exact Drawn0.refl _ | apply Drawn0.step)⟩
                    · replace c17 := Bool.eq_false_iff.mpr c17
                      subst c17
                      have H1 : (lockgatelaw01_WordOrders.j4 kj12 a0 a1 a2 x7_3 x8_12 x9_9) = some r := by rw [if_neg (show ¬ (false = true) by decide)] at H; exact H
                      clear H
                      have H := H1
                      clear H1
                      have H' := Aside0.mk H
                      clear H
                      go_wp2
                      go_meet
                      case rel => exact ⟨_, (x9_9), (by first | rfl | (simp; done) | (simp [wrap64]; done) | (simp [*]; done)), H', ⟨by have := HJ3.out; have := HJ6.out; have := HJ9.out; have := HJ12.out; first | omega | exact Nat.le_refl _⟩, by repeat (first | exact Drawn0.refl _ | apply Drawn0.step)⟩
                  case rest =>
                    clear HC16
                    try clear c1
                    try clear p2
                    try clear c3
                    try clear c5
                    try clear c6
                    try clear p6
                    try clear c8
                    try clear c9
                    try clear c11
                    try clear c12
                    try clear c14
                    try clear c17
                    try clear p2
                    try clear p6
                    obtain ⟨kq, x9_15, rfl, HA, HJ15, ⟨mc15, rfl⟩⟩ := hcut
                    cases kq with
                    | zero => exact absurd HA.out (by simp [lockgatelaw01_WordOrders.j4])
                    | succ kj15 =>
                      have H := HA.out
                      clear HA
                      simp only [lockgatelaw01_WordOrders.j4] at H
                      replace H := Option.bind_eq_some_iff.mp H
                      obtain ⟨t223, A180, H⟩ := H
                      replace H : (if t223 = true then (lockgatelaw01_WordOrders.j5 kj15 a0 a1 a2 x7_3 x8_12 (wrap64 (x9_15 + 1))) else (lockgatelaw01_WordOrders.j5 kj15 a0 a1 a2 x7_3 x8_12 x9_15)) = some r := H
                      have A18 := Aside0.mk A180
                      clear A180
                      have HC19 := Aside0.mk H
                      clear H
                      go_upto_if 41 with (first | ((with_reducible refine gate_callee (f := 18) rfl ?_); refine goesL_ (some 41) rfl rfl Try.func18 (by kernel_rfl) rfl #[.int .i64 6, .bool a0, .int .u64 a1, .int .u64 a2] rfl (by (try simp only [List.map_toArray, List.map_cons, List.map_nil]); first | done | rfl | (simp only [List.length_drop, List.length_take]; rfl)) ?_; (with_reducible refine (lockgatelaw01_jump.calls kj15 6 a0 a1 a2 t223 _ A18.out).mono ?_); rintro e w' ⟨rfl, ⟨nd, rfl⟩⟩; refine ⟨_, rfl, ?_⟩))
                      (try simp only [Act.put, List.setIfInBounds_toArray, List.set_cons_zero, List.set_cons_succ])
                      go_cut [9] (fun v9 wc => ∃ (kq : Nat) (x9_18 : Int), v9 = .int .i64 x9_18 ∧ Aside0 (lockgatelaw01_WordOrders.j5 kq a0 a1 a2 x7_3 x8_12 x9_18 = some r) ∧ Aside0 (kq ≤ kj15) ∧ Drawn0 w wc)
                      case first =>
                        have H := HC19.out
                        clear HC19
                        by_cases c20 : t223 = true
                        · subst c20
                          have H1 : (lockgatelaw01_WordOrders.j5 kj15 a0 a1 a2 x7_3 x8_12 (wrap64 (x9_15 + 1))) = some r := by rw [if_pos rfl] at H; exact H
                          clear H
                          have H := H1
                          clear H1
                          have H' := Aside0.mk H
                          clear H
                          go_wp2
                          go_meet
                          case rel => exact ⟨_, (wrap64 (x9_15 + 1)), (by first | rfl | (simp; done) | (simp [wrap64]; done) | (simp [*]; done)), H', ⟨by have := HJ3.out; have := HJ6.out; have := HJ9.out; have := HJ12.out; have := HJ15.out; first | omega | exact Nat.le_refl _⟩, by repeat (first | exact Drawn0.refl _ | apply Drawn0.step)⟩
                        · replace c20 := Bool.eq_false_iff.mpr c20
                          subst c20
                          have H1 : (lockgatelaw01_WordOrders.j5 kj15 a0 a1 a2 x7_3 x8_12 x9_15) = some r := by rw [if_neg (show ¬ (false = true) by decide)] at H; exact H
                          clear H
                          have H := H1
                          clear H1
                          have H' := Aside0.mk H
                          clear H
                          go_wp2
                          go_meet
                          case rel => exact ⟨_, (x9_15), (by first | rfl | (simp; done) | (simp [wrap64]; done) | (simp [*]; done)), H', ⟨by have := HJ3.out; have := HJ6.out; have := HJ9.out; have := HJ12.out; have := HJ15.out; first | omega | exact Nat.le_refl _⟩, by repeat (first | exact Drawn0.refl _ | apply Drawn0.step)⟩
                      case rest =>
                        clear HC19
                        try clear c1
                        try clear c2
                        try clear p2
                        try clear c3
                        try clear c5
                        try clear c6
                        try clear p6
                        try clear c8
                        try clear c9
                        try clear c11
                        try clear c12
                        try clear c14
                        try clear c15
                        try clear c17
                        try clear c18
                        try clear c20
                        try clear p2
                        try clear p6
                        obtain ⟨kq, x9_18, rfl, HA, HJ18, ⟨mc18, rfl⟩⟩ := hcut
                        cases kq with
                        | zero => exact absurd HA.out (by simp [lockgatelaw01_WordOrders.j5])
                        | succ kj18 =>
                          have H := HA.out
                          clear HA
                          simp only [lockgatelaw01_WordOrders.j5] at H
                          have HC21 := Aside0.mk H
                          clear H
                          go_upto_region 17 with (fail)
                          go_cut [104] (fun v104 wc => ∃ (kq : Nat) (x104_20 : Bool), v104 = .bool x104_20 ∧ Aside0 (lockgatelaw01_WordOrders.j6 kq a0 a1 a2 x7_3 x104_20 = some r) ∧ Aside0 (kq ≤ kj18) ∧ Drawn0 w wc)
                          case first =>
                            have H := HC21.out
                            clear HC21
                            by_cases c22 : x8_12 = 1
                            · rw [if_pos c22] at H
                              have c22b0 : (x8_12 == 1) = true := beq_iff_eq.mpr c22
                              have c22b1 : (x8_12 != 1) = false := bne_eq_false_iff_eq.mpr c22
                              clear c22
                              (first | rw [c22b0] | (simp only [i64_w, i32_w]; rw [c22b0]) | skip)
                              by_cases c23 : x9_18 = 1
                              · rw [if_pos c23] at H
                                have c23b0 : (x9_18 == 1) = true := beq_iff_eq.mpr c23
                                have c23b1 : (x9_18 != 1) = false := bne_eq_false_iff_eq.mpr c23
                                clear c23
                                replace H := Option.bind_eq_some_iff.mp H
                                obtain ⟨t224, A240, H⟩ := H
                                replace H : ((lockgatelaw01_jump.f kj18 1 a0 a1 a2).bind fun t225 => (if (t224 == t225) = true then (lockgatelaw01_WordOrders.j6 kj18 a0 a1 a2 x7_3 true) else ((lockgatelaw01_jump.f kj18 3 a0 a1 a2).bind fun t226 => ((lockgatelaw01_jump.f kj18 10 a0 a1 a2).bind fun t227 => (if (t226 == t227) = true then (lockgatelaw01_WordOrders.j6 kj18 a0 a1 a2 x7_3 true) else ((lockgatelaw01_jump.f kj18 11 a0 a1 a2).bind fun t228 => ((lockgatelaw01_jump.f kj18 2 a0 a1 a2).bind fun t229 => (if (t228 == t229) = true then (lockgatelaw01_WordOrders.j6 kj18 a0 a1 a2 x7_3 true) else ((lockgatelaw01_jump.f kj18 7 a0 a1 a2).bind fun t230 => ((lockgatelaw01_jump.f kj18 12 a0 a1 a2).bind fun t231 => (if (t230 == t231) = true then (lockgatelaw01_WordOrders.j6 kj18 a0 a1 a2 x7_3 true) else ((lockgatelaw01_jump.f kj18 13 a0 a1 a2).bind fun t232 => ((lockgatelaw01_jump.f kj18 6 a0 a1 a2).bind fun t233 => (lockgatelaw01_WordOrders.j6 kj18 a0 a1 a2 x7_3 (t232 == t233))))))))))))))) = some r := H
                                have A24 := Aside0.mk A240
                                clear A240
                                replace H := Option.bind_eq_some_iff.mp H
                                obtain ⟨t225, A250, H⟩ := H
                                replace H : (if (t224 == t225) = true then (lockgatelaw01_WordOrders.j6 kj18 a0 a1 a2 x7_3 true) else ((lockgatelaw01_jump.f kj18 3 a0 a1 a2).bind fun t226 => ((lockgatelaw01_jump.f kj18 10 a0 a1 a2).bind fun t227 => (if (t226 == t227) = true then (lockgatelaw01_WordOrders.j6 kj18 a0 a1 a2 x7_3 true) else ((lockgatelaw01_jump.f kj18 11 a0 a1 a2).bind fun t228 => ((lockgatelaw01_jump.f kj18 2 a0 a1 a2).bind fun t229 => (if (t228 == t229) = true then (lockgatelaw01_WordOrders.j6 kj18 a0 a1 a2 x7_3 true) else ((lockgatelaw01_jump.f kj18 7 a0 a1 a2).bind fun t230 => ((lockgatelaw01_jump.f kj18 12 a0 a1 a2).bind fun t231 => (if (t230 == t231) = true then (lockgatelaw01_WordOrders.j6 kj18 a0 a1 a2 x7_3 true) else ((lockgatelaw01_jump.f kj18 13 a0 a1 a2).bind fun t232 => ((lockgatelaw01_jump.f kj18 6 a0 a1 a2).bind fun t233 => (lockgatelaw01_WordOrders.j6 kj18 a0 a1 a2 x7_3 (t232 == t233)))))))))))))) = some r := H
                                have A25 := Aside0.mk A250
                                clear A250
                                by_cases c26 : (t224 == t225) = true
                                · rw [if_pos c26] at H
                                  have c26b0 : (t224 == t225) = true := c26
                                  (try (have c26b1 : decide (t224 = t225) = true := by simpa using c26))
                                  (try (have c26b2 : (t224 == t225) = true := by simpa using c26))
                                  clear c26
                                  have H' := Aside0.mk H
                                  clear H
                                  go_wp2_with (first | (go_at_call 18; (with_reducible refine (lockgatelaw01_jump.calls kj18 5 a0 a1 a2 t224 _ A24.out).mono ?_); rintro e w' ⟨rfl, ⟨nd, rfl⟩⟩) | (go_at_call 18; (with_reducible refine (lockgatelaw01_jump.calls kj18 1 a0 a1 a2 t225 _ A25.out).mono ?_); rintro e w' ⟨rfl, ⟨nd, rfl⟩⟩))
                                  go_meet
                                  case rel => exact ⟨_, (true), (by first | rfl | (simp; done) | (simp [wrap64]; done) | (simp [*]; done)), H', ⟨by have := HJ3.out; have := HJ6.out; have := HJ9.out; have := HJ12.out; have := HJ15.out; have := HJ18.out; first | omega | exact Nat.le_refl _⟩, by repeat (first | exact Drawn0.refl _ | apply Drawn0.step)⟩
                                · rw [if_neg c26] at H
                                  have c26b0 : (t224 == t225) = false := by simpa using c26
                                  (try (have c26b1 : decide (t224 = t225) = false := by simpa using c26))
                                  (try (have c26b2 : (t224 == t225) = false := by simpa using c26))
                                  (try (have c26b3 : ¬ (t224 = t225) := by simpa using c26))
                                  clear c26
                                  replace H := Option.bind_eq_some_iff.mp H
                                  obtain ⟨t226, A270, H⟩ := H
                                  replace H : ((lockgatelaw01_jump.f kj18 10 a0 a1 a2).bind fun t227 => (if (t226 == t227) = true then (lockgatelaw01_WordOrders.j6 kj18 a0 a1 a2 x7_3 true) else ((lockgatelaw01_jump.f kj18 11 a0 a1 a2).bind fun t228 => ((lockgatelaw01_jump.f kj18 2 a0 a1 a2).bind fun t229 => (if (t228 == t229) = true then (lockgatelaw01_WordOrders.j6 kj18 a0 a1 a2 x7_3 true) else ((lockgatelaw01_jump.f kj18 7 a0 a1 a2).bind fun t230 => ((lockgatelaw01_jump.f kj18 12 a0 a1 a2).bind fun t231 => (if (t230 == t231) = true then (lockgatelaw01_WordOrders.j6 kj18 a0 a1 a2 x7_3 true) else ((lockgatelaw01_jump.f kj18 13 a0 a1 a2).bind fun t232 => ((lockgatelaw01_jump.f kj18 6 a0 a1 a2).bind fun t233 => (lockgatelaw01_WordOrders.j6 kj18 a0 a1 a2 x7_3 (t232 == t233)))))))))))) = some r := H
                                  have A27 := Aside0.mk A270
                                  clear A270
                                  replace H := Option.bind_eq_some_iff.mp H
                                  obtain ⟨t227, A280, H⟩ := H
                                  replace H : (if (t226 == t227) = true then (lockgatelaw01_WordOrders.j6 kj18 a0 a1 a2 x7_3 true) else ((lockgatelaw01_jump.f kj18 11 a0 a1 a2).bind fun t228 => ((lockgatelaw01_jump.f kj18 2 a0 a1 a2).bind fun t229 => (if (t228 == t229) = true then (lockgatelaw01_WordOrders.j6 kj18 a0 a1 a2 x7_3 true) else ((lockgatelaw01_jump.f kj18 7 a0 a1 a2).bind fun t230 => ((lockgatelaw01_jump.f kj18 12 a0 a1 a2).bind fun t231 => (if (t230 == t231) = true then (lockgatelaw01_WordOrders.j6 kj18 a0 a1 a2 x7_3 true) else ((lockgatelaw01_jump.f kj18 13 a0 a1 a2).bind fun t232 => ((lockgatelaw01_jump.f kj18 6 a0 a1 a2).bind fun t233 => (lockgatelaw01_WordOrders.j6 kj18 a0 a1 a2 x7_3 (t232 == t233))))))))))) = some r := H
                                  have A28 := Aside0.mk A280
                                  clear A280
                                  by_cases c29 : (t226 == t227) = true
                                  · rw [if_pos c29] at H
                                    have c29b0 : (t226 == t227) = true := c29
                                    (try (have c29b1 : decide (t226 = t227) = true := by simpa using c29))
                                    (try (have c29b2 : (t226 == t227) = true := by simpa using c29))
                                    clear c29
                                    have H' := Aside0.mk H
                                    clear H
                                    go_wp2_with (first | (go_at_call 18; (with_reducible refine (lockgatelaw01_jump.calls kj18 5 a0 a1 a2 t224 _ A24.out).mono ?_); rintro e w' ⟨rfl, ⟨nd, rfl⟩⟩) | (go_at_call 18; (with_reducible refine (lockgatelaw01_jump.calls kj18 1 a0 a1 a2 t225 _ A25.out).mono ?_); rintro e w' ⟨rfl, ⟨nd, rfl⟩⟩) | (go_at_call 18; (with_reducible refine (lockgatelaw01_jump.calls kj18 3 a0 a1 a2 t226 _ A27.out).mono ?_); rintro e w' ⟨rfl, ⟨nd, rfl⟩⟩) | (go_at_call 18; (with_reducible refine (lockgatelaw01_jump.calls kj18 10 a0 a1 a2 t227 _ A28.out).mono ?_); rintro e w' ⟨rfl, ⟨nd, rfl⟩⟩))
                                    go_meet
                                    case rel => exact ⟨_, (true), (by first | rfl | (simp; done) | (simp [wrap64]; done) | (simp [*]; done)), H', ⟨by have := HJ3.out; have := HJ6.out; have := HJ9.out; have := HJ12.out; have := HJ15.out; have := HJ18.out; first | omega | exact Nat.le_refl _⟩, by repeat (first | exact Drawn0.refl _ | apply Drawn0.step)⟩
                                  · rw [if_neg c29] at H
                                    have c29b0 : (t226 == t227) = false := by simpa using c29
                                    (try (have c29b1 : decide (t226 = t227) = false := by simpa using c29))
                                    (try (have c29b2 : (t226 == t227) = false := by simpa using c29))
                                    (try (have c29b3 : ¬ (t226 = t227) := by simpa using c29))
                                    clear c29
                                    replace H := Option.bind_eq_some_iff.mp H
                                    obtain ⟨t228, A300, H⟩ := H
                                    replace H : ((lockgatelaw01_jump.f kj18 2 a0 a1 a2).bind fun t229 => (if (t228 == t229) = true then (lockgatelaw01_WordOrders.j6 kj18 a0 a1 a2 x7_3 true) else ((lockgatelaw01_jump.f kj18 7 a0 a1 a2).bind fun t230 => ((lockgatelaw01_jump.f kj18 12 a0 a1 a2).bind fun t231 => (if (t230 == t231) = true then (lockgatelaw01_WordOrders.j6 kj18 a0 a1 a2 x7_3 true) else ((lockgatelaw01_jump.f kj18 13 a0 a1 a2).bind fun t232 => ((lockgatelaw01_jump.f kj18 6 a0 a1 a2).bind fun t233 => (lockgatelaw01_WordOrders.j6 kj18 a0 a1 a2 x7_3 (t232 == t233))))))))) = some r := H
                                    have A30 := Aside0.mk A300
                                    clear A300
                                    replace H := Option.bind_eq_some_iff.mp H
                                    obtain ⟨t229, A310, H⟩ := H
                                    replace H : (if (t228 == t229) = true then (lockgatelaw01_WordOrders.j6 kj18 a0 a1 a2 x7_3 true) else ((lockgatelaw01_jump.f kj18 7 a0 a1 a2).bind fun t230 => ((lockgatelaw01_jump.f kj18 12 a0 a1 a2).bind fun t231 => (if (t230 == t231) = true then (lockgatelaw01_WordOrders.j6 kj18 a0 a1 a2 x7_3 true) else ((lockgatelaw01_jump.f kj18 13 a0 a1 a2).bind fun t232 => ((lockgatelaw01_jump.f kj18 6 a0 a1 a2).bind fun t233 => (lockgatelaw01_WordOrders.j6 kj18 a0 a1 a2 x7_3 (t232 == t233)))))))) = some r := H
                                    have A31 := Aside0.mk A310
                                    clear A310
                                    by_cases c32 : (t228 == t229) = true
                                    · rw [if_pos c32] at H
                                      have c32b0 : (t228 == t229) = true := c32
                                      (try (have c32b1 : decide (t228 = t229) = true := by simpa using c32))
                                      (try (have c32b2 : (t228 == t229) = true := by simpa using c32))
                                      clear c32
                                      have H' := Aside0.mk H
                                      clear H
                                      go_wp2_with (first | (go_at_call 18; (with_reducible refine (lockgatelaw01_jump.calls kj18 5 a0 a1 a2 t224 _ A24.out).mono ?_); rintro e w' ⟨rfl, ⟨nd, rfl⟩⟩) | (go_at_call 18; (with_reducible refine (lockgatelaw01_jump.calls kj18 1 a0 a1 a2 t225 _ A25.out).mono ?_); rintro e w' ⟨rfl, ⟨nd, rfl⟩⟩) | (go_at_call 18; (with_reducible refine (lockgatelaw01_jump.calls kj18 3 a0 a1 a2 t226 _ A27.out).mono ?_); rintro e w' ⟨rfl, ⟨nd, rfl⟩⟩) | (go_at_call 18; (with_reducible refine (lockgatelaw01_jump.calls kj18 10 a0 a1 a2 t227 _ A28.out).mono ?_); rintro e w' ⟨rfl, ⟨nd, rfl⟩⟩) | (go_at_call 18; (with_reducible refine (lockgatelaw01_jump.calls kj18 11 a0 a1 a2 t228 _ A30.out).mono ?_); rintro e w' ⟨rfl, ⟨nd, rfl⟩⟩) | (go_at_call 18; (with_reducible refine (lockgatelaw01_jump.calls kj18 2 a0 a1 a2 t229 _ A31.out).mono ?_); rintro e w' ⟨rfl, ⟨nd, rfl⟩⟩))
                                      go_meet
                                      case rel => exact ⟨_, (true), (by first | rfl | (simp; done) | (simp [wrap64]; done) | (simp [*]; done)), H', ⟨by have := HJ3.out; have := HJ6.out; have := HJ9.out; have := HJ12.out; have := HJ15.out; have := HJ18.out; first | omega | exact Nat.le_refl _⟩, by repeat (first | exact Drawn0.refl _ | apply Drawn0.step)⟩
                                    · rw [if_neg c32] at H
                                      have c32b0 : (t228 == t229) = false := by simpa using c32
                                      (try (have c32b1 : decide (t228 = t229) = false := by simpa using c32))
                                      (try (have c32b2 : (t228 == t229) = false := by simpa using c32))
                                      (try (have c32b3 : ¬ (t228 = t229) := by simpa using c32))
                                      clear c32
                                      replace H := Option.bind_eq_some_iff.mp H
                                      obtain ⟨t230, A330, H⟩ := H
                                      replace H : ((lockgatelaw01_jump.f kj18 12 a0 a1 a2).bind fun t231 => (if (t230 == t231) = true then (lockgatelaw01_WordOrders.j6 kj18 a0 a1 a2 x7_3 true) else ((lockgatelaw01_jump.f kj18 13 a0 a1 a2).bind fun t232 => ((lockgatelaw01_jump.f kj18 6 a0 a1 a2).bind fun t233 => (lockgatelaw01_WordOrders.j6 kj18 a0 a1 a2 x7_3 (t232 == t233)))))) = some r := H
                                      have A33 := Aside0.mk A330
                                      clear A330
                                      replace H := Option.bind_eq_some_iff.mp H
                                      obtain ⟨t231, A340, H⟩ := H
                                      replace H : (if (t230 == t231) = true then (lockgatelaw01_WordOrders.j6 kj18 a0 a1 a2 x7_3 true) else ((lockgatelaw01_jump.f kj18 13 a0 a1 a2).bind fun t232 => ((lockgatelaw01_jump.f kj18 6 a0 a1 a2).bind fun t233 => (lockgatelaw01_WordOrders.j6 kj18 a0 a1 a2 x7_3 (t232 == t233))))) = some r := H
                                      have A34 := Aside0.mk A340
                                      clear A340
                                      by_cases c35 : (t230 == t231) = true
                                      · rw [if_pos c35] at H
                                        have c35b0 : (t230 == t231) = true := c35
                                        (try (have c35b1 : decide (t230 = t231) = true := by simpa using c35))
                                        (try (have c35b2 : (t230 == t231) = true := by simpa using c35))
                                        clear c35
                                        have H' := Aside0.mk H
                                        clear H
                                        go_wp2_with (first | (go_at_call 18; (with_reducible refine (lockgatelaw01_jump.calls kj18 5 a0 a1 a2 t224 _ A24.out).mono ?_); rintro e w' ⟨rfl, ⟨nd, rfl⟩⟩) | (go_at_call 18; (with_reducible refine (lockgatelaw01_jump.calls kj18 1 a0 a1 a2 t225 _ A25.out).mono ?_); rintro e w' ⟨rfl, ⟨nd, rfl⟩⟩) | (go_at_call 18; (with_reducible refine (lockgatelaw01_jump.calls kj18 3 a0 a1 a2 t226 _ A27.out).mono ?_); rintro e w' ⟨rfl, ⟨nd, rfl⟩⟩) | (go_at_call 18; (with_reducible refine (lockgatelaw01_jump.calls kj18 10 a0 a1 a2 t227 _ A28.out).mono ?_); rintro e w' ⟨rfl, ⟨nd, rfl⟩⟩) | (go_at_call 18; (with_reducible refine (lockgatelaw01_jump.calls kj18 11 a0 a1 a2 t228 _ A30.out).mono ?_); rintro e w' ⟨rfl, ⟨nd, rfl⟩⟩) | (go_at_call 18; (with_reducible refine (lockgatelaw01_jump.calls kj18 2 a0 a1 a2 t229 _ A31.out).mono ?_); rintro e w' ⟨rfl, ⟨nd, rfl⟩⟩) | (go_at_call 18; (with_reducible refine (lockgatelaw01_jump.calls kj18 7 a0 a1 a2 t230 _ A33.out).mono ?_); rintro e w' ⟨rfl, ⟨nd, rfl⟩⟩) | (go_at_call 18; (with_reducible refine (lockgatelaw01_jump.calls kj18 12 a0 a1 a2 t231 _ A34.out).mono ?_); rintro e w' ⟨rfl, ⟨nd, rfl⟩⟩))
                                        go_meet
                                        case rel => exact ⟨_, (true), (by first | rfl | (simp; done) | (simp [wrap64]; done) | (simp [*]; done)), H', ⟨by have := HJ3.out; have := HJ6.out; have := HJ9.out; have := HJ12.out; have := HJ15.out; have := HJ18.out; first | omega | exact Nat.le_refl _⟩, by repeat (first | exact Drawn0.refl _ | apply Drawn0.step)⟩
                                      · rw [if_neg c35] at H
                                        have c35b0 : (t230 == t231) = false := by simpa using c35
                                        (try (have c35b1 : decide (t230 = t231) = false := by simpa using c35))
                                        (try (have c35b2 : (t230 == t231) = false := by simpa using c35))
                                        (try (have c35b3 : ¬ (t230 = t231) := by simpa using c35))
                                        clear c35
                                        replace H := Option.bind_eq_some_iff.mp H
                                        obtain ⟨t232, A360, H⟩ := H
                                        replace H : ((lockgatelaw01_jump.f kj18 6 a0 a1 a2).bind fun t233 => (lockgatelaw01_WordOrders.j6 kj18 a0 a1 a2 x7_3 (t232 == t233))) = some r := H
                                        have A36 := Aside0.mk A360
                                        clear A360
                                        replace H := Option.bind_eq_some_iff.mp H
                                        obtain ⟨t233, A370, H⟩ := H
                                        replace H : (lockgatelaw01_WordOrders.j6 kj18 a0 a1 a2 x7_3 (t232 == t233)) = some r := H
                                        have A37 := Aside0.mk A370
                                        clear A370
                                        have H' := Aside0.mk H
                                        clear H
                                        go_wp2_with (first | (go_at_call 18; (with_reducible refine (lockgatelaw01_jump.calls kj18 5 a0 a1 a2 t224 _ A24.out).mono ?_); rintro e w' ⟨rfl, ⟨nd, rfl⟩⟩) | (go_at_call 18; (with_reducible refine (lockgatelaw01_jump.calls kj18 1 a0 a1 a2 t225 _ A25.out).mono ?_); rintro e w' ⟨rfl, ⟨nd, rfl⟩⟩) | (go_at_call 18; (with_reducible refine (lockgatelaw01_jump.calls kj18 3 a0 a1 a2 t226 _ A27.out).mono ?_); rintro e w' ⟨rfl, ⟨nd, rfl⟩⟩) | (go_at_call 18; (with_reducible refine (lockgatelaw01_jump.calls kj18 10 a0 a1 a2 t227 _ A28.out).mono ?_); rintro e w' ⟨rfl, ⟨nd, rfl⟩⟩) | (go_at_call 18; (with_reducible refine (lockgatelaw01_jump.calls kj18 11 a0 a1 a2 t228 _ A30.out).mono ?_); rintro e w' ⟨rfl, ⟨nd, rfl⟩⟩) | (go_at_call 18; (with_reducible refine (lockgatelaw01_jump.calls kj18 2 a0 a1 a2 t229 _ A31.out).mono ?_); rintro e w' ⟨rfl, ⟨nd, rfl⟩⟩) | (go_at_call 18; (with_reducible refine (lockgatelaw01_jump.calls kj18 7 a0 a1 a2 t230 _ A33.out).mono ?_); rintro e w' ⟨rfl, ⟨nd, rfl⟩⟩) | (go_at_call 18; (with_reducible refine (lockgatelaw01_jump.calls kj18 12 a0 a1 a2 t231 _ A34.out).mono ?_); rintro e w' ⟨rfl, ⟨nd, rfl⟩⟩) | (go_at_call 18; (with_reducible refine (lockgatelaw01_jump.calls kj18 13 a0 a1 a2 t232 _ A36.out).mono ?_); rintro e w' ⟨rfl, ⟨nd, rfl⟩⟩) | (go_at_call 18; (with_reducible refine (lockgatelaw01_jump.calls kj18 6 a0 a1 a2 t233 _ A37.out).mono ?_); rintro e w' ⟨rfl, ⟨nd, rfl⟩⟩))
                                        go_meet
                                        case rel => exact ⟨_, ((t232 == t233)), (by first | rfl | (simp; done) | (simp [wrap64]; done) | (simp [*]; done)), H', ⟨by have := HJ3.out; have := HJ6.out; have := HJ9.out; have := HJ12.out; have := HJ15.out; have := HJ18.out; first | omega | exact Nat.le_refl _⟩, by repeat (first | exact Drawn0.refl _ | apply Drawn0.step)⟩
                              · rw [if_neg c23] at H
                                have c23b0 : (x9_18 == 1) = false := beq_eq_false_iff_ne.mpr c23
                                have c23b1 : (x9_18 != 1) = true := bne_iff_ne.mpr c23
                                have H' := Aside0.mk H
                                clear H
                                go_wp2
                                go_meet
                                case rel => exact ⟨_, (true), (by first | rfl | (simp; done) | (simp [wrap64]; done) | (simp [*]; done)), H', ⟨by have := HJ3.out; have := HJ6.out; have := HJ9.out; have := HJ12.out; have := HJ15.out; have := HJ18.out; first | omega | exact Nat.le_refl _⟩, by repeat (first | exact Drawn0.refl _ | apply Drawn0.step)⟩
                            · rw [if_neg c22] at H
                              have c22b0 : (x8_12 == 1) = false := beq_eq_false_iff_ne.mpr c22
                              have c22b1 : (x8_12 != 1) = true := bne_iff_ne.mpr c22
                              (first | rw [c22b0] | (simp only [i64_w, i32_w]; rw [c22b0]) | skip)
                              have H' := Aside0.mk H
                              clear H
                              go_wp2
                              go_meet
                              case rel => exact ⟨_, (true), (by first | rfl | (simp; done) | (simp [wrap64]; done) | (simp [*]; done)), H', ⟨by have := HJ3.out; have := HJ6.out; have := HJ9.out; have := HJ12.out; have := HJ15.out; have := HJ18.out; first | omega | exact Nat.le_refl _⟩, by repeat (first | exact Drawn0.refl _ | apply Drawn0.step)⟩
                          case rest =>
                            clear HC21
                            try clear c1
                            try clear c2
                            try clear p2
                            try clear c3
                            try clear c5
                            try clear c6
                            try clear p6
                            try clear c8
                            try clear c9
                            try clear c11
                            try clear c12
                            try clear c14
                            try clear c15
                            try clear c17
                            try clear c18
                            try clear c20
                            try clear c22
                            try clear c22b0
                            try clear c22b1
                            try clear c23
                            try clear c23b0
                            try clear c23b1
                            try clear c26
                            try clear c26b0
                            try clear c26b1
                            try clear c26b2
                            try clear c29
                            try clear c29b0
                            try clear c29b1
                            try clear c29b2
                            try clear c32
                            try clear c32b0
                            try clear c32b1
                            try clear c32b2
                            try clear c35
                            try clear c35b0
                            try clear c35b1
                            try clear c35b2
                            try clear p2
                            try clear p6
                            obtain ⟨kq, x104_20, rfl, HA, HJ20, ⟨mc20, rfl⟩⟩ := hcut
                            cases kq with
                            | zero => exact absurd HA.out (by simp [lockgatelaw01_WordOrders.j6])
                            | succ kj20 =>
                              have H := HA.out
                              clear HA
                              simp only [lockgatelaw01_WordOrders.j6] at H
                              by_cases c38 : x104_20 = true
                              · subst c38
                                have H1 : (some false) = some r := by rw [if_pos rfl] at H; exact H
                                clear H
                                have H := H1
                                clear H1
                                exact absurd ((Option.some.inj H).trans HRT.out) (by decide)
                              · replace c38 := Bool.eq_false_iff.mpr c38
                                subst c38
                                have H1 : ((lockgatelaw01_jump.f kj20 2 a0 a1 a2).bind fun t234 => ((lockgatelaw01_jump.f kj20 10 a0 a2 a1).bind fun t235 => (if (t234 != t235) = true then (lockgatelaw01_WordOrders.j7 kj20 a0 a1 a2 x7_3 true) else ((lockgatelaw01_jump.f kj20 6 a0 a1 a2).bind fun t236 => ((lockgatelaw01_jump.f kj20 12 a0 a2 a1).bind fun t237 => (if (t236 != t237) = true then (lockgatelaw01_WordOrders.j7 kj20 a0 a1 a2 x7_3 true) else ((lockgatelaw01_jump.f kj20 4 a0 a1 a2).bind fun t238 => ((lockgatelaw01_alu.f kj20 5 a0 a1 a2).bind fun t239 => (lockgatelaw01_WordOrders.j7 kj20 a0 a1 a2 x7_3 (t238 != (t239 != 0))))))))))) = some r := by rw [if_neg (show ¬ (false = true) by decide)] at H; exact H
                                clear H
                                have H := H1
                                clear H1
                                have HC39 := Aside0.mk H
                                clear H
                                go_upto_region 19 with (fail)
                                go_cut [136] (fun v136 wc => ∃ (kq : Nat) (x136_38 : Bool), v136 = .bool x136_38 ∧ Aside0 (lockgatelaw01_WordOrders.j7 kq a0 a1 a2 x7_3 x136_38 = some r) ∧ Aside0 (kq ≤ kj20) ∧ Drawn0 w wc)
                                case first =>
                                  have H := HC39.out
                                  clear HC39
                                  replace H := Option.bind_eq_some_iff.mp H
                                  obtain ⟨t234, A400, H⟩ := H
                                  replace H : ((lockgatelaw01_jump.f kj20 10 a0 a2 a1).bind fun t235 => (if (t234 != t235) = true then (lockgatelaw01_WordOrders.j7 kj20 a0 a1 a2 x7_3 true) else ((lockgatelaw01_jump.f kj20 6 a0 a1 a2).bind fun t236 => ((lockgatelaw01_jump.f kj20 12 a0 a2 a1).bind fun t237 => (if (t236 != t237) = true then (lockgatelaw01_WordOrders.j7 kj20 a0 a1 a2 x7_3 true) else ((lockgatelaw01_jump.f kj20 4 a0 a1 a2).bind fun t238 => ((lockgatelaw01_alu.f kj20 5 a0 a1 a2).bind fun t239 => (lockgatelaw01_WordOrders.j7 kj20 a0 a1 a2 x7_3 (t238 != (t239 != 0)))))))))) = some r := H
                                  have A40 := Aside0.mk A400
                                  clear A400
                                  replace H := Option.bind_eq_some_iff.mp H
                                  obtain ⟨t235, A410, H⟩ := H
                                  replace H : (if (t234 != t235) = true then (lockgatelaw01_WordOrders.j7 kj20 a0 a1 a2 x7_3 true) else ((lockgatelaw01_jump.f kj20 6 a0 a1 a2).bind fun t236 => ((lockgatelaw01_jump.f kj20 12 a0 a2 a1).bind fun t237 => (if (t236 != t237) = true then (lockgatelaw01_WordOrders.j7 kj20 a0 a1 a2 x7_3 true) else ((lockgatelaw01_jump.f kj20 4 a0 a1 a2).bind fun t238 => ((lockgatelaw01_alu.f kj20 5 a0 a1 a2).bind fun t239 => (lockgatelaw01_WordOrders.j7 kj20 a0 a1 a2 x7_3 (t238 != (t239 != 0))))))))) = some r := H
                                  have A41 := Aside0.mk A410
                                  clear A410
                                  by_cases c42 : (t234 != t235) = true
                                  · rw [if_pos c42] at H
                                    have c42b0 : (t234 != t235) = true := c42
                                    (try (have c42b1 : decide (t234 = t235) = false := by simpa using c42))
                                    (try (have c42b2 : (t234 == t235) = false := by simpa using c42))
                                    (try (have c42b3 : ¬ (t234 = t235) := by simpa using c42))
                                    clear c42
                                    (first | rw [c42b0] | (simp only [i64_w, i32_w]; rw [c42b0]) | skip)
                                    have H' := Aside0.mk H
                                    clear H
                                    go_wp2_with (first | ((with_reducible refine gate_callee (f := 18) rfl ?_); refine goesL_ (some 108) rfl rfl Try.func18 (by kernel_rfl) rfl #[.int .i64 2, .bool a0, .int .u64 a1, .int .u64 a2] rfl (by (try simp only [List.map_toArray, List.map_cons, List.map_nil]); first | done | rfl | (simp only [List.length_drop, List.length_take]; rfl)) ?_; (with_reducible refine (lockgatelaw01_jump.calls kj20 2 a0 a1 a2 t234 _ A40.out).mono ?_); rintro e w' ⟨rfl, ⟨nd, rfl⟩⟩; refine ⟨_, rfl, ?_⟩) | ((with_reducible refine gate_callee (f := 18) rfl ?_); refine goesL_ (some 112) rfl rfl Try.func18 (by kernel_rfl) rfl #[.int .i64 10, .bool a0, .int .u64 a2, .int .u64 a1] rfl (by (try simp only [List.map_toArray, List.map_cons, List.map_nil]); first | done | rfl | (simp only [List.length_drop, List.length_take]; rfl)) ?_; (with_reducible refine (lockgatelaw01_jump.calls kj20 10 a0 a2 a1 t235 _ A41.out).mono ?_); rintro e w' ⟨rfl, ⟨nd, rfl⟩⟩; refine ⟨_, rfl, ?_⟩))
                                    go_meet
                                    case rel => exact ⟨_, (true), (by first | rfl | (simp; done) | (simp [wrap64]; done) | (simp [*]; done)), H', ⟨by have := HJ3.out; have := HJ6.out; have := HJ9.out; have := HJ12.out; have := HJ15.out; have := HJ18.out; have := HJ20.out; first | omega | exact Nat.le_refl _⟩, by repeat (first | exact Drawn0.refl _ | apply Drawn0.step)⟩
                                  · rw [if_neg c42] at H
                                    have c42b0 : (t234 != t235) = false := by simpa using c42
                                    (try (have c42b1 : decide (t234 = t235) = true := by simpa using c42))
                                    (try (have c42b2 : (t234 == t235) = true := by simpa using c42))
                                    clear c42
                                    (first | rw [c42b0] | (simp only [i64_w, i32_w]; rw [c42b0]) | skip)
                                    replace H := Option.bind_eq_some_iff.mp H
                                    obtain ⟨t236, A430, H⟩ := H
                                    replace H : ((lockgatelaw01_jump.f kj20 12 a0 a2 a1).bind fun t237 => (if (t236 != t237) = true then (lockgatelaw01_WordOrders.j7 kj20 a0 a1 a2 x7_3 true) else ((lockgatelaw01_jump.f kj20 4 a0 a1 a2).bind fun t238 => ((lockgatelaw01_alu.f kj20 5 a0 a1 a2).bind fun t239 => (lockgatelaw01_WordOrders.j7 kj20 a0 a1 a2 x7_3 (t238 != (t239 != 0))))))) = some r := H
                                    have A43 := Aside0.mk A430
                                    clear A430
                                    replace H := Option.bind_eq_some_iff.mp H
                                    obtain ⟨t237, A440, H⟩ := H
                                    replace H : (if (t236 != t237) = true then (lockgatelaw01_WordOrders.j7 kj20 a0 a1 a2 x7_3 true) else ((lockgatelaw01_jump.f kj20 4 a0 a1 a2).bind fun t238 => ((lockgatelaw01_alu.f kj20 5 a0 a1 a2).bind fun t239 => (lockgatelaw01_WordOrders.j7 kj20 a0 a1 a2 x7_3 (t238 != (t239 != 0)))))) = some r := H
                                    have A44 := Aside0.mk A440
                                    clear A440
                                    by_cases c45 : (t236 != t237) = true
                                    · rw [if_pos c45] at H
                                      have c45b0 : (t236 != t237) = true := c45
                                      (try (have c45b1 : decide (t236 = t237) = false := by simpa using c45))
                                      (try (have c45b2 : (t236 == t237) = false := by simpa using c45))
                                      (try (have c45b3 : ¬ (t236 = t237) := by simpa using c45))
                                      clear c45
                                      have H' := Aside0.mk H
                                      clear H
                                      go_wp2_with (first | ((with_reducible refine gate_callee (f := 18) rfl ?_); refine goesL_ (some 108) rfl rfl Try.func18 (by kernel_rfl) rfl #[.int .i64 2, .bool a0, .int .u64 a1, .int .u64 a2] rfl (by (try simp only [List.map_toArray, List.map_cons, List.map_nil]); first | done | rfl | (simp only [List.length_drop, List.length_take]; rfl)) ?_; (with_reducible refine (lockgatelaw01_jump.calls kj20 2 a0 a1 a2 t234 _ A40.out).mono ?_); rintro e w' ⟨rfl, ⟨nd, rfl⟩⟩; refine ⟨_, rfl, ?_⟩) | ((with_reducible refine gate_callee (f := 18) rfl ?_); refine goesL_ (some 112) rfl rfl Try.func18 (by kernel_rfl) rfl #[.int .i64 10, .bool a0, .int .u64 a2, .int .u64 a1] rfl (by (try simp only [List.map_toArray, List.map_cons, List.map_nil]); first | done | rfl | (simp only [List.length_drop, List.length_take]; rfl)) ?_; (with_reducible refine (lockgatelaw01_jump.calls kj20 10 a0 a2 a1 t235 _ A41.out).mono ?_); rintro e w' ⟨rfl, ⟨nd, rfl⟩⟩; refine ⟨_, rfl, ?_⟩) | (go_at_call 18; (with_reducible refine (lockgatelaw01_jump.calls kj20 6 a0 a1 a2 t236 _ A43.out).mono ?_); rintro e w' ⟨rfl, ⟨nd, rfl⟩⟩) | (go_at_call 18; (with_reducible refine (lockgatelaw01_jump.calls kj20 12 a0 a2 a1 t237 _ A44.out).mono ?_); rintro e w' ⟨rfl, ⟨nd, rfl⟩⟩))
                                      go_meet
                                      case rel => exact ⟨_, (true), (by first | rfl | (simp; done) | (simp [wrap64]; done) | (simp [*]; done)), H', ⟨by have := HJ3.out; have := HJ6.out; have := HJ9.out; have := HJ12.out; have := HJ15.out; have := HJ18.out; have := HJ20.out; first | omega | exact Nat.le_refl _⟩, by repeat (first | exact Drawn0.refl _ | apply Drawn0.step)⟩
                                    · rw [if_neg c45] at H
                                      have c45b0 : (t236 != t237) = false := by simpa using c45
                                      (try (have c45b1 : decide (t236 = t237) = true := by simpa using c45))
                                      (try (have c45b2 : (t236 == t237) = true := by simpa using c45))
                                      clear c45
                                      replace H := Option.bind_eq_some_iff.mp H
                                      obtain ⟨t238, A460, H⟩ := H
                                      replace H : ((lockgatelaw01_alu.f kj20 5 a0 a1 a2).bind fun t239 => (lockgatelaw01_WordOrders.j7 kj20 a0 a1 a2 x7_3 (t238 != (t239 != 0)))) = some r := H
                                      have A46 := Aside0.mk A460
                                      clear A460
                                      replace H := Option.bind_eq_some_iff.mp H
                                      obtain ⟨t239, A470, H⟩ := H
                                      replace H : (lockgatelaw01_WordOrders.j7 kj20 a0 a1 a2 x7_3 (t238 != (t239 != 0))) = some r := H
                                      have A47 := Aside0.mk A470
                                      clear A470
                                      have H' := Aside0.mk H
                                      clear H
                                      go_wp2_with (first | ((with_reducible refine gate_callee (f := 18) rfl ?_); refine goesL_ (some 108) rfl rfl Try.func18 (by kernel_rfl) rfl #[.int .i64 2, .bool a0, .int .u64 a1, .int .u64 a2] rfl (by (try simp only [List.map_toArray, List.map_cons, List.map_nil]); first | done | rfl | (simp only [List.length_drop, List.length_take]; rfl)) ?_; (with_reducible refine (lockgatelaw01_jump.calls kj20 2 a0 a1 a2 t234 _ A40.out).mono ?_); rintro e w' ⟨rfl, ⟨nd, rfl⟩⟩; refine ⟨_, rfl, ?_⟩) | ((with_reducible refine gate_callee (f := 18) rfl ?_); refine goesL_ (some 112) rfl rfl Try.func18 (by kernel_rfl) rfl #[.int .i64 10, .bool a0, .int .u64 a2, .int .u64 a1] rfl (by (try simp only [List.map_toArray, List.map_cons, List.map_nil]); first | done | rfl | (simp only [List.length_drop, List.length_take]; rfl)) ?_; (with_reducible refine (lockgatelaw01_jump.calls kj20 10 a0 a2 a1 t235 _ A41.out).mono ?_); rintro e w' ⟨rfl, ⟨nd, rfl⟩⟩; refine ⟨_, rfl, ?_⟩) | (go_at_call 18; (with_reducible refine (lockgatelaw01_jump.calls kj20 6 a0 a1 a2 t236 _ A43.out).mono ?_); rintro e w' ⟨rfl, ⟨nd, rfl⟩⟩) | (go_at_call 18; (with_reducible refine (lockgatelaw01_jump.calls kj20 12 a0 a2 a1 t237 _ A44.out).mono ?_); rintro e w' ⟨rfl, ⟨nd, rfl⟩⟩) | (go_at_call 18; (with_reducible refine (lockgatelaw01_jump.calls kj20 4 a0 a1 a2 t238 _ A46.out).mono ?_); rintro e w' ⟨rfl, ⟨nd, rfl⟩⟩) | (go_at_call 17; (with_reducible refine (lockgatelaw01_alu.calls kj20 5 a0 a1 a2 t239 _ A47.out).mono ?_); rintro e w' ⟨rfl, ⟨nd, rfl⟩⟩))
                                      go_meet
                                      case rel => exact ⟨_, ((t238 != (t239 != 0))), (by first | rfl | (simp; done) | (simp [wrap64]; done) | (simp [*]; done)), H', ⟨by have := HJ3.out; have := HJ6.out; have := HJ9.out; have := HJ12.out; have := HJ15.out; have := HJ18.out; have := HJ20.out; first | omega | exact Nat.le_refl _⟩, by repeat (first | exact Drawn0.refl _ | apply Drawn0.step)⟩
                                case rest =>
                                  clear HC39
                                  try clear c1
                                  try clear c2
                                  try clear p2
                                  try clear c3
                                  try clear c4
                                  try clear c5
                                  try clear c6
                                  try clear p6
                                  try clear c8
                                  try clear c9
                                  try clear c11
                                  try clear c12
                                  try clear c14
                                  try clear c15
                                  try clear c17
                                  try clear c18
                                  try clear c20
                                  try clear c22
                                  try clear c22b0
                                  try clear c22b1
                                  try clear c23
                                  try clear c23b0
                                  try clear c23b1
                                  try clear c26
                                  try clear c26b0
                                  try clear c26b1
                                  try clear c26b2
                                  try clear c29
                                  try clear c29b0
                                  try clear c29b1
                                  try clear c29b2
                                  try clear c32
                                  try clear c32b0
                                  try clear c32b1
                                  try clear c32b2
                                  try clear c35
                                  try clear c35b0
                                  try clear c35b1
                                  try clear c35b2
                                  try clear c38
                                  try clear c42
                                  try clear c42b0
                                  try clear c42b1
                                  try clear c42b2
                                  try clear c45
                                  try clear c45b0
                                  try clear c45b1
                                  try clear c45b2
                                  try clear p2
                                  try clear p6
                                  obtain ⟨kq, x136_38, rfl, HA, HJ38, ⟨mc38, rfl⟩⟩ := hcut
                                  cases kq with
                                  | zero => exact absurd HA.out (by simp [lockgatelaw01_WordOrders.j7])
                                  | succ kj38 =>
                                    have H := HA.out
                                    clear HA
                                    simp only [lockgatelaw01_WordOrders.j7] at H
                                    by_cases c48 : x136_38 = true
                                    · subst c48
                                      have H1 : (some false) = some r := by rw [if_pos rfl] at H; exact H
                                      clear H
                                      have H := H1
                                      clear H1
                                      exact absurd ((Option.some.inj H).trans HRT.out) (by decide)
                                    · replace c48 := Bool.eq_false_iff.mpr c48
                                      subst c48
                                      have H1 : ((lockgatelaw01_jump.f kj38 12 a0 a1 a2).bind fun t240 => ((lockgatelaw01_jump.f kj38 10 a0 (IntKind.u64.wrap (a1 + x7_3)) (IntKind.u64.wrap (a2 + x7_3))).bind fun t241 => (if (t240 == t241) = true then ((lockgatelaw01_known.f kj38).bind fun t242 => (some t242)) else (some false)))) = some r := by rw [if_neg (show ¬ (false = true) by decide)] at H; exact H
                                      clear H
                                      have H := H1
                                      clear H1
                                      replace H := Option.bind_eq_some_iff.mp H
                                      obtain ⟨t240, A490, H⟩ := H
                                      replace H : ((lockgatelaw01_jump.f kj38 10 a0 (IntKind.u64.wrap (a1 + x7_3)) (IntKind.u64.wrap (a2 + x7_3))).bind fun t241 => (if (t240 == t241) = true then ((lockgatelaw01_known.f kj38).bind fun t242 => (some t242)) else (some false))) = some r := H
                                      have A49 := Aside0.mk A490
                                      clear A490
                                      replace H := Option.bind_eq_some_iff.mp H
                                      obtain ⟨t241, A500, H⟩ := H
                                      replace H : (if (t240 == t241) = true then ((lockgatelaw01_known.f kj38).bind fun t242 => (some t242)) else (some false)) = some r := H
                                      have A50 := Aside0.mk A500
                                      clear A500
                                      by_cases c51 : (t240 == t241) = true
                                      · rw [if_pos c51] at H
                                        have c51b0 : (t240 == t241) = true := c51
                                        (try (have c51b1 : decide (t240 = t241) = true := by simpa using c51))
                                        (try (have c51b2 : (t240 == t241) = true := by simpa using c51))
                                        clear c51
                                        replace H := Option.bind_eq_some_iff.mp H
                                        obtain ⟨t242, A520, H⟩ := H
                                        replace H : (some t242) = some r := H
                                        have A52 := Aside0.mk A520
                                        clear A520
                                        obtain rfl := Option.some.inj H
                                        go_wp2_with (first | ((with_reducible refine gate_callee (f := 18) rfl ?_); refine goesL_ (some 140) rfl rfl Try.func18 (by kernel_rfl) rfl #[.int .i64 12, .bool a0, .int .u64 a1, .int .u64 a2] rfl (by (try simp only [List.map_toArray, List.map_cons, List.map_nil]); first | done | rfl | (simp only [List.length_drop, List.length_take]; rfl)) ?_; (with_reducible refine (lockgatelaw01_jump.calls kj38 12 a0 a1 a2 t240 _ A49.out).mono ?_); rintro e w' ⟨rfl, ⟨nd, rfl⟩⟩; refine ⟨_, rfl, ?_⟩) | ((with_reducible refine gate_callee (f := 18) rfl ?_); refine goesL_ (some 148) rfl rfl Try.func18 (by kernel_rfl) rfl #[.int .i64 10, .bool a0, .int .u64 (IntKind.u64.wrap (a1 + x7_3)), .int .u64 (IntKind.u64.wrap (a2 + x7_3))] rfl (by (try simp only [List.map_toArray, List.map_cons, List.map_nil]); first | done | rfl | (simp only [List.length_drop, List.length_take]; rfl)) ?_; (with_reducible refine (lockgatelaw01_jump.calls kj38 10 a0 (IntKind.u64.wrap (a1 + x7_3)) (IntKind.u64.wrap (a2 + x7_3)) t241 _ A50.out).mono ?_); rintro e w' ⟨rfl, ⟨nd, rfl⟩⟩; refine ⟨_, rfl, ?_⟩) | (go_at_call 14; (with_reducible refine (lockgatelaw01_known.calls kj38  t242 _ A52.out).mono ?_); rintro e w' ⟨rfl, ⟨nd, rfl⟩⟩))
                                        go_ret
                                        exact ⟨by first | rfl | (simp; done) | (simp [wrap64]; done) | (simp [*]; done), by repeat (first | exact Drawn0.refl _ | apply Drawn0.step)⟩
                                      · rw [if_neg c51] at H
                                        have c51b0 : (t240 == t241) = false := by simpa using c51
                                        (try (have c51b1 : decide (t240 = t241) = false := by simpa using c51))
                                        (try (have c51b2 : (t240 == t241) = false := by simpa using c51))
                                        (try (have c51b3 : ¬ (t240 = t241) := by simpa using c51))
                                        clear c51
                                        exact absurd ((Option.some.inj H).trans HRT.out) (by decide)

end Go.Proofs.Ytbionehmfbmcdaa.PA
