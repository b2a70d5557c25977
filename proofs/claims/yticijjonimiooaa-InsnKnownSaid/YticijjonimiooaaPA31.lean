import Derived.Test.YticijjonimiooaaWTab
import Derived.Test.YticijjonimiooaaWRepsOne
import Derived.Test.YticijjonimiooaaWGuard
import Derived.Test.YticijjonimiooaaPA0
import Derived.Test.YticijjonimiooaaSq
import Derived.Test.YticijjonimiooaaPA23
import Derived.Test.YticijjonimiooaaPA24
import Derived.Test.YticijjonimiooaaPA25
import Derived.Test.YticijjonimiooaaPA26
import Derived.Test.YticijjonimiooaaPA29
import Derived.Test.YticijjonimiooaaPA30
namespace Go.Proofs.Yticijjonimiooaa.PA
open Go.RowKit Go.Proofs.YticijjonimiooaaW.PrintWords Go.Proofs.YticijjonimiooaaW.PrintLast Go.Proofs.YticijjonimiooaaW.PrintMore
attribute [local go_sem] max2_int min2_int max_two min_two max_three min_three max_four min_four
set_option linter.unusedVariables false
set_option linter.unusedSimpArgs false
mutual
def lockgatelaw02_InsnKnown.l0 : Nat → List Int → Int → Option (Bool)
 | 0, _, _ => none
 | k + 1, x1, x2 => if x2 ≤ 256 then ((lockgatelaw02_InsnChecks.f k x2 0 0 0 0).bind fun t537 => (if t537 = true then ((lockgatelaw02_InsnChecks.f k x2 10 0 0 0).bind fun t538 => (if t538 = true then ((lockgatelaw02_InsnChecks.f k x2 0 1 0 0).bind fun t539 => (if t539 = true then ((lockgatelaw02_InsnChecks.f k x2 0 0 0 16).bind fun t540 => (if t540 = true then ((lockgatelaw02_InsnChecks.f k x2 0 0 1 0).bind fun t541 => (if t541 = true then ((lockgatelaw02_InsnGets.f k (([(x2) % 256, 33, 1, 0, 3, 0, 0, 0] : List Int))).bind fun t545 => (if t545 = true then ((lockgatelaw02_InsnGets.f k (([(x2) % 256, 1, 0, 0, 32, 0, 0, 0, 0, 0, 0, 0, 0, 0, 0, 128] : List Int))).bind fun t549 => (if t549 = true then (lockgatelaw02_InsnKnown.l0 k x1 (wrap64 (x2 + 1))) else (some false))) else (some false))) else (some false))) else (some false))) else (some false))) else (some false))) else (some false))) else (lockgatelaw02_InsnKnown.l1 k x1 (([24, 97, 98, 99, 121, 183, 191, 135, 212, 220, 5, 21, 29, 22, 133, 149] : List Int)) 0)
def lockgatelaw02_InsnKnown.l1 : Nat → List Int → List Int → Int → Option (Bool)
 | 0, _, _, _ => none
 | k + 1, x1, x3, x4 => if x4 < (x3.length : Int) then (lockgatelaw02_InsnKnown.l2 k x1 x3 x4 0) else (lockgatelaw02_InsnKnown.l3 k ([] : List (S40)) 0)
def lockgatelaw02_InsnKnown.l2 : Nat → List Int → List Int → Int → Int → Option (Bool)
 | 0, _, _, _, _ => none
 | k + 1, x1, x3, x4, x5 => if x5 < (x1.length : Int) then (if 0 ≤ x4 then (if x4 < (x3.length : Int) then (if 0 ≤ x5 then ((lockgatelaw02_InsnChecks.f k (rd x3 x4) (rd x1 x5) 0 0 0).bind fun t555 => (if t555 = true then ((lockgatelaw02_InsnChecks.f k (rd x3 x4) 0 (rd x1 x5) 0 0).bind fun t558 => (if t558 = true then ((lockgatelaw02_InsnChecks.f k (rd x3 x4) 0 0 (rd x1 x5) 0).bind fun t561 => (if t561 = true then ((lockgatelaw02_InsnChecks.f k (rd x3 x4) 0 0 0 (rd x1 x5)).bind fun t564 => (if t564 = true then ((lockgatelaw02_InsnChecks.f k (rd x3 x4) 0 1 0 (rd x1 x5)).bind fun t567 => (if t567 = true then ((lockgatelaw02_InsnPuts.f k (([(⟨rd x3 x4, 0, 0, 0, rd x1 x5⟩ : S40), (⟨rd x3 x4, 0, 0, rd x1 x5, 0⟩ : S40)] : List (S40)))).bind fun t575 => (if t575 = true then (lockgatelaw02_InsnKnown.l2 k x1 x3 x4 (wrap64 (x5 + 1))) else (some false))) else (some false))) else (some false))) else (some false))) else (some false))) else (some false))) else (none)) else (none)) else (none)) else (lockgatelaw02_InsnKnown.l1 k x1 x3 (wrap64 (x4 + 1)))
def lockgatelaw02_InsnKnown.l3 : Nat → List (S40) → Int → Option (Bool)
 | 0, _, _ => none
 | k + 1, x6, x7 => if x7 < 258 then (if x6.length < 3518437208883 then ((some (x6 ++ [(⟨183, Int.tmod x7 10, 0, 0, x7⟩ : S40)] : List (S40))).bind fun y576 => (if x7 > 253 then ((lockgatelaw02_InsnPuts.f k y576).bind fun t579 => (if t579 = true then ((lockgatelaw02_InsnBack.f k y576).bind fun t580 => (if t580 = true then ((lockgatelaw02_InsnCut.f k y576 (wrap64 ((wrap64 (8 * x7)) - 3))).bind fun t581 => (if t581 = true then (lockgatelaw02_InsnKnown.l3 k y576 (wrap64 (x7 + 1))) else (some false))) else (some false))) else (some false))) else (lockgatelaw02_InsnKnown.l3 k y576 (wrap64 (x7 + 1))))) else (none)) else (lockgatelaw02_InsnKnown.l4 k ([] : List Int) 0)
def lockgatelaw02_InsnKnown.l4 : Nat → List Int → Int → Option (Bool)
 | 0, _, _ => none
 | k + 1, x8, x9 => if x9 < 2056 then ((some (([149, 0, 0, 0, 0, 0, 0, 0] : List Int) : List Int)).bind fun y582 => (if 0 ≤ (Int.tmod x9 8) then (if (Int.tmod x9 8) < (y582.length : Int) then (if x8.length < 140737488355328 then (lockgatelaw02_InsnKnown.l4 k (x8 ++ [rd y582 (Int.tmod x9 8)]) (wrap64 (x9 + 1))) else (none)) else (none)) else (none))) else ((lockgatelaw02_InsnGets.f k x8).bind fun t589 => (if t589 = true then (if 2048 ≤ (x8.length : Int) then ((lockgatelaw02_InsnGets.f k (x8.take 2048)).bind fun t594 => (if t594 = true then (if 2051 ≤ (x8.length : Int) then ((lockgatelaw02_InsnGets.f k (x8.take 2051)).bind fun t599 => (if t599 = true then ((lockgatelaw02_works.f k).bind fun t600 => (some t600)) else (some false))) else (none)) else (some false))) else (none)) else (some false)))
end
def lockgatelaw02_InsnKnown.f (k : Nat)  : Option (Bool) := lockgatelaw02_InsnKnown.l0 k (([(-9223372036854775808), (-2147483648), (-2147483649), (-32769), (-32768), (-1), 0, 1, 8, 9, 10, 11, 16, 32, 64, 32767, 32768, 2147483647, 2147483648, 9223372036854775807] : List Int)) (-1)
theorem lockgatelaw02_InsnKnown.mono_l : ∀ k, (∀ y0 y1, LeO (lockgatelaw02_InsnKnown.l0 k y0 y1) (lockgatelaw02_InsnKnown.l0 (k + 1) y0 y1)) ∧ (∀ y0 y1 y2, LeO (lockgatelaw02_InsnKnown.l1 k y0 y1 y2) (lockgatelaw02_InsnKnown.l1 (k + 1) y0 y1 y2)) ∧ (∀ y0 y1 y2 y3, LeO (lockgatelaw02_InsnKnown.l2 k y0 y1 y2 y3) (lockgatelaw02_InsnKnown.l2 (k + 1) y0 y1 y2 y3)) ∧ (∀ y0 y1, LeO (lockgatelaw02_InsnKnown.l3 k y0 y1) (lockgatelaw02_InsnKnown.l3 (k + 1) y0 y1)) ∧ (∀ y0 y1, LeO (lockgatelaw02_InsnKnown.l4 k y0 y1) (lockgatelaw02_InsnKnown.l4 (k + 1) y0 y1))
 | 0 => ⟨fun _ _ r h => by simp [lockgatelaw02_InsnKnown.l0] at h, fun _ _ _ r h => by simp [lockgatelaw02_InsnKnown.l1] at h, fun _ _ _ _ r h => by simp [lockgatelaw02_InsnKnown.l2] at h, fun _ _ r h => by simp [lockgatelaw02_InsnKnown.l3] at h, fun _ _ r h => by simp [lockgatelaw02_InsnKnown.l4] at h⟩
 | k + 1 => by
  obtain ⟨ih0, ih1, ih2, ih3, ih4⟩ := lockgatelaw02_InsnKnown.mono_l k
  refine ⟨?_, ?_, ?_, ?_, ?_⟩
  ·intro y0 y1
   unfold lockgatelaw02_InsnKnown.l0
   repeat' first
   | (with_reducible exact ih0 _ _)
   | (with_reducible exact ih1 _ _ _)
   | (with_reducible exact ih2 _ _ _ _)
   | (with_reducible exact ih3 _ _)
   | (with_reducible exact ih4 _ _)
   | (with_reducible exact lockgatelaw02_InsnBack.mono _ _)
   | (with_reducible exact lockgatelaw02_InsnChecks.mono _ _ _ _ _ _)
   | (with_reducible exact lockgatelaw02_InsnCut.mono _ _ _)
   | (with_reducible exact lockgatelaw02_InsnGets.mono _ _)
   | (with_reducible exact lockgatelaw02_InsnPuts.mono _ _)
   | (with_reducible exact lockgatelaw02_works.mono _)
   | (with_reducible exact LeO.refl _)
   | (with_reducible exact LeO.none _)
   | (with_reducible refine LeO.ite ?_ ?_)
   | (with_reducible refine LeO.bind ?_ (fun _ => ?_))
   | exact ih0 _ _
   | exact ih1 _ _ _
   | exact ih2 _ _ _ _
   | exact ih3 _ _
   | exact ih4 _ _
   | exact lockgatelaw02_InsnBack.mono _ _
   | exact lockgatelaw02_InsnChecks.mono _ _ _ _ _ _
   | exact lockgatelaw02_InsnCut.mono _ _ _
   | exact lockgatelaw02_InsnGets.mono _ _
   | exact lockgatelaw02_InsnPuts.mono _ _
   | exact lockgatelaw02_works.mono _
   | exact LeO.none _
   | refine LeO.ite ?_ ?_
   | refine LeO.bind ?_ (fun _ => ?_)
  ·intro y0 y1 y2
   unfold lockgatelaw02_InsnKnown.l1
   repeat' first
   | (with_reducible exact ih0 _ _)
   | (with_reducible exact ih1 _ _ _)
   | (with_reducible exact ih2 _ _ _ _)
   | (with_reducible exact ih3 _ _)
   | (with_reducible exact ih4 _ _)
   | (with_reducible exact lockgatelaw02_InsnBack.mono _ _)
   | (with_reducible exact lockgatelaw02_InsnChecks.mono _ _ _ _ _ _)
   | (with_reducible exact lockgatelaw02_InsnCut.mono _ _ _)
   | (with_reducible exact lockgatelaw02_InsnGets.mono _ _)
   | (with_reducible exact lockgatelaw02_InsnPuts.mono _ _)
   | (with_reducible exact lockgatelaw02_works.mono _)
   | (with_reducible exact LeO.refl _)
   | (with_reducible exact LeO.none _)
   | (with_reducible refine LeO.ite ?_ ?_)
   | (with_reducible refine LeO.bind ?_ (fun _ => ?_))
   | exact ih0 _ _
   | exact ih1 _ _ _
   | exact ih2 _ _ _ _
   | exact ih3 _ _
   | exact ih4 _ _
   | exact lockgatelaw02_InsnBack.mono _ _
   | exact lockgatelaw02_InsnChecks.mono _ _ _ _ _ _
   | exact lockgatelaw02_InsnCut.mono _ _ _
   | exact lockgatelaw02_InsnGets.mono _ _
   | exact lockgatelaw02_InsnPuts.mono _ _
   | exact lockgatelaw02_works.mono _
   | exact LeO.none _
   | refine LeO.ite ?_ ?_
   | refine LeO.bind ?_ (fun _ => ?_)
  ·intro y0 y1 y2 y3
   unfold lockgatelaw02_InsnKnown.l2
   repeat' first
   | (with_reducible exact ih0 _ _)
   | (with_reducible exact ih1 _ _ _)
   | (with_reducible exact ih2 _ _ _ _)
   | (with_reducible exact ih3 _ _)
   | (with_reducible exact ih4 _ _)
   | (with_reducible exact lockgatelaw02_InsnBack.mono _ _)
   | (with_reducible exact lockgatelaw02_InsnChecks.mono _ _ _ _ _ _)
   | (with_reducible exact lockgatelaw02_InsnCut.mono _ _ _)
   | (with_reducible exact lockgatelaw02_InsnGets.mono _ _)
   | (with_reducible exact lockgatelaw02_InsnPuts.mono _ _)
   | (with_reducible exact lockgatelaw02_works.mono _)
   | (with_reducible exact LeO.refl _)
   | (with_reducible exact LeO.none _)
   | (with_reducible refine LeO.ite ?_ ?_)
   | (with_reducible refine LeO.bind ?_ (fun _ => ?_))
   | exact ih0 _ _
   | exact ih1 _ _ _
   | exact ih2 _ _ _ _
   | exact ih3 _ _
   | exact ih4 _ _
   | exact lockgatelaw02_InsnBack.mono _ _
   | exact lockgatelaw02_InsnChecks.mono _ _ _ _ _ _
   | exact lockgatelaw02_InsnCut.mono _ _ _
   | exact lockgatelaw02_InsnGets.mono _ _
   | exact lockgatelaw02_InsnPuts.mono _ _
   | exact lockgatelaw02_works.mono _
   | exact LeO.none _
   | refine LeO.ite ?_ ?_
   | refine LeO.bind ?_ (fun _ => ?_)
  ·intro y0 y1
   unfold lockgatelaw02_InsnKnown.l3
   repeat' first
   | (with_reducible exact ih0 _ _)
   | (with_reducible exact ih1 _ _ _)
   | (with_reducible exact ih2 _ _ _ _)
   | (with_reducible exact ih3 _ _)
   | (with_reducible exact ih4 _ _)
   | (with_reducible exact lockgatelaw02_InsnBack.mono _ _)
   | (with_reducible exact lockgatelaw02_InsnChecks.mono _ _ _ _ _ _)
   | (with_reducible exact lockgatelaw02_InsnCut.mono _ _ _)
   | (with_reducible exact lockgatelaw02_InsnGets.mono _ _)
   | (with_reducible exact lockgatelaw02_InsnPuts.mono _ _)
   | (with_reducible exact lockgatelaw02_works.mono _)
   | (with_reducible exact LeO.refl _)
   | (with_reducible exact LeO.none _)
   | (with_reducible refine LeO.ite ?_ ?_)
   | (with_reducible refine LeO.bind ?_ (fun _ => ?_))
   | exact ih0 _ _
   | exact ih1 _ _ _
   | exact ih2 _ _ _ _
   | exact ih3 _ _
   | exact ih4 _ _
   | exact lockgatelaw02_InsnBack.mono _ _
   | exact lockgatelaw02_InsnChecks.mono _ _ _ _ _ _
   | exact lockgatelaw02_InsnCut.mono _ _ _
   | exact lockgatelaw02_InsnGets.mono _ _
   | exact lockgatelaw02_InsnPuts.mono _ _
   | exact lockgatelaw02_works.mono _
   | exact LeO.none _
   | refine LeO.ite ?_ ?_
   | refine LeO.bind ?_ (fun _ => ?_)
  intro y0 y1
  unfold lockgatelaw02_InsnKnown.l4
  repeat' first
  | (with_reducible exact ih0 _ _)
  | (with_reducible exact ih1 _ _ _)
  | (with_reducible exact ih2 _ _ _ _)
  | (with_reducible exact ih3 _ _)
  | (with_reducible exact ih4 _ _)
  | (with_reducible exact lockgatelaw02_InsnBack.mono _ _)
  | (with_reducible exact lockgatelaw02_InsnChecks.mono _ _ _ _ _ _)
  | (with_reducible exact lockgatelaw02_InsnCut.mono _ _ _)
  | (with_reducible exact lockgatelaw02_InsnGets.mono _ _)
  | (with_reducible exact lockgatelaw02_InsnPuts.mono _ _)
  | (with_reducible exact lockgatelaw02_works.mono _)
  | (with_reducible exact LeO.refl _)
  | (with_reducible exact LeO.none _)
  | (with_reducible refine LeO.ite ?_ ?_)
  | (with_reducible refine LeO.bind ?_ (fun _ => ?_))
  | exact ih0 _ _
  | exact ih1 _ _ _
  | exact ih2 _ _ _ _
  | exact ih3 _ _
  | exact ih4 _ _
  | exact lockgatelaw02_InsnBack.mono _ _
  | exact lockgatelaw02_InsnChecks.mono _ _ _ _ _ _
  | exact lockgatelaw02_InsnCut.mono _ _ _
  | exact lockgatelaw02_InsnGets.mono _ _
  | exact lockgatelaw02_InsnPuts.mono _ _
  | exact lockgatelaw02_works.mono _
  | exact LeO.none _
  | refine LeO.ite ?_ ?_
  | refine LeO.bind ?_ (fun _ => ?_)
theorem lockgatelaw02_InsnKnown.mono : ∀ k, LeO (lockgatelaw02_InsnKnown.f k ) (lockgatelaw02_InsnKnown.f (k + 1) ) := by
 intro  k
 obtain ⟨ih0, ih1, ih2, ih3, ih4⟩ := lockgatelaw02_InsnKnown.mono_l k
 unfold lockgatelaw02_InsnKnown.f
 repeat' first
  | (with_reducible exact ih0 _ _)
  | (with_reducible exact ih1 _ _ _)
  | (with_reducible exact ih2 _ _ _ _)
  | (with_reducible exact ih3 _ _)
  | (with_reducible exact ih4 _ _)
  | (with_reducible exact lockgatelaw02_InsnBack.mono _ _)
  | (with_reducible exact lockgatelaw02_InsnChecks.mono _ _ _ _ _ _)
  | (with_reducible exact lockgatelaw02_InsnCut.mono _ _ _)
  | (with_reducible exact lockgatelaw02_InsnGets.mono _ _)
  | (with_reducible exact lockgatelaw02_InsnPuts.mono _ _)
  | (with_reducible exact lockgatelaw02_works.mono _)
  | (with_reducible exact LeO.refl _)
  | (with_reducible exact LeO.none _)
  | (with_reducible refine LeO.ite ?_ ?_)
  | (with_reducible refine LeO.bind ?_ (fun _ => ?_))
  | exact ih0 _ _
  | exact ih1 _ _ _
  | exact ih2 _ _ _ _
  | exact ih3 _ _
  | exact ih4 _ _
  | exact lockgatelaw02_InsnBack.mono _ _
  | exact lockgatelaw02_InsnChecks.mono _ _ _ _ _ _
  | exact lockgatelaw02_InsnCut.mono _ _ _
  | exact lockgatelaw02_InsnGets.mono _ _
  | exact lockgatelaw02_InsnPuts.mono _ _
  | exact lockgatelaw02_works.mono _
  | exact LeO.none _
  | refine LeO.ite ?_ ?_
  | refine LeO.bind ?_ (fun _ => ?_)
def lockgatelaw02_InsnKnown.T14 : Bool × List (List Nat × List Nat) := (true, [([], []), ([], []), ([0, 1], [0, 1]), ([2], [2]), ([], []), ([], []), ([4, 5], [4, 5]), ([6], [6]), ([3, 7], [3, 7]), ([8], [8]), ([9], [9]), ([10, 9], [10]), ([11], [11]), ([11], [11]), ([12, 13, 11], [11, 12, 13]), ([14, 11], [11, 14]), ([11], [11]), ([11], [11]), ([16, 17, 11], [11, 16, 17]), ([18, 11], [11, 18]), ([15, 19, 11], [11, 15, 19]), ([20, 11, 11], [11, 20]), ([21, 11], [11, 21]), ([11, 22], [11, 22]), ([23, 21], [23]), ([24], [24]), ([24], [24]), ([25, 26, 24], [24, 25, 26]), ([27, 24], [24, 27]), ([24], [24]), ([24], [24]), ([29, 30, 24], [24, 29, 30]), ([31, 24], [24, 31]), ([28, 32, 24], [24, 28, 32]), ([33, 24, 24], [24, 33]), ([34, 24], [24, 34]), ([24, 35], [24, 35]), ([36, 34], [36]), ([37], [37]), ([37], [37]), ([38, 39, 37], [37, 38, 39]), ([40, 37], [37, 40]), ([37], [37]), ([37], [37]), ([42, 43, 37], [37, 42, 43]), ([44, 37], [37, 44]), ([41, 45, 37], [37, 41, 45]), ([46, 37, 37], [37, 46]), ([47, 37], [37, 47]), ([37, 48], [37, 48]), ([49, 47], [49]), ([50], [50]), ([50], [50]), ([51, 52, 50], [50, 51, 52]), ([53, 50], [50, 53]), ([50], [50]), ([50], [50]), ([55, 56, 50], [50, 55, 56]), ([57, 50], [50, 57]), ([54, 58, 50], [50, 54, 58]), ([59, 50, 50], [50, 59]), ([60, 50], [50, 60]), ([50, 61], [50, 61]), ([62, 60], [62]), ([63], [63]), ([63], [63]), ([64, 65, 63], [63, 64, 65]), ([66, 63], [63, 66]), ([63], [63]), ([63], [63]), ([68, 69, 63], [63, 68, 69]), ([70, 63], [63, 70]), ([67, 71, 63], [63, 67, 71]), ([63], [63]), ([63], [63]), ([73, 74, 63], [63, 73, 74]), ([75, 63], [63, 75]), ([63], [63]), ([63], [63]), ([77, 78, 63], [63, 77, 78]), ([79, 63], [63, 79]), ([76, 80, 63], [63, 76, 80]), ([72, 81, 63], [63, 72, 81]), ([82, 63, 63], [63, 82]), ([83, 63], [63, 83]), ([63, 84], [63, 84])])
def lockgatelaw02_InsnKnown.B14 : List Nat := [0, 0, 3, 7, 0, 0, 48, 112, 255, 511, 1023, 2047, 4095, 4095, 16383, 32767, 4095, 4095, 200703, 462847, 1048575, 2097151, 4194303, 8388607, 16777215, 33554431, 33554431, 134217727, 268435455, 33554431, 33554431, 1644167167, 3791650815, 8589934591, 17179869183, 34359738367, 68719476735, 137438953471, 274877906943, 274877906943, 1099511627775, 2199023255551, 274877906943, 274877906943, 13469017440255, 31061203484671, 70368744177663, 140737488355327, 281474976710655, 562949953421311, 1125899906842623, 2251799813685247, 2251799813685247, 9007199254740991, 18014398509481983, 2251799813685247, 2251799813685247, 110338190870577151, 254453378946433023, 576460752303423487, 1152921504606846975, 2305843009213693951, 4611686018427387903, 9223372036854775807, 18446744073709551615, 18446744073709551615, 73786976294838206463, 147573952589676412927, 18446744073709551615, 18446744073709551615, 903890459611768029183, 2084482080329179332607, 4722366482869645213695, 18446744073709551615, 18446744073709551615, 28352645641291580833791, 66131577504248742543359, 18446744073709551615, 18446744073709551615, 453365629099559650066431, 1057828538906874237419519, 2408425353007592768536575, 4835703278458516698824703, 9671406556917033397649407, 19342813113834066795298815, 38685626227668133590597631]
theorem lockgatelaw02_InsnKnown.tab14 : rtab .any (opsOf Try.f10 14) = lockgatelaw02_InsnKnown.T14 := by kernel_rfl
theorem lockgatelaw02_InsnKnown.bits14 : waitsOk lockgatelaw02_InsnKnown.T14.2 lockgatelaw02_InsnKnown.B14 = true := by kernel_rfl
set_option maxHeartbeats 8000000 in
set_option maxRecDepth 100000 in
theorem lockgatelaw02_InsnKnown.calls (k : Nat)  (r : Bool) (w : World) (HRT : Aside0 (r = true)) (h : lockgatelaw02_InsnKnown.f k  = some r) :
 Calls Try.prog 10 #[] w fun e w' => e = .returned (.bool r) ∧ Below w.heap.size w w' := by
 have hu40 := Try.underlying40
 have HB := Aside0.mk (Below.refl w.heap.size w)
 have H : (lockgatelaw02_InsnKnown.l0 k (([(-9223372036854775808), (-2147483648), (-2147483649), (-32769), (-32768), (-1), 0, 1, 8, 9, 10, 11, 16, 32, 64, 32767, 32768, 2147483647, 2147483648, 9223372036854775807] : List Int)) (-1)) = some r := h
 clear h
 obtain ⟨y534, hy534⟩ : ∃ Y : List Int, Y = (([(-9223372036854775808), (-2147483648), (-2147483649), (-32769), (-32768), (-1), 0, 1, 8, 9, 10, 11, 16, 32, 64, 32767, 32768, 2147483647, 2147483648, 9223372036854775807] : List Int)) := ⟨_, rfl⟩
 replace H : (lockgatelaw02_InsnKnown.l0 k y534 (-1)) = some r := by first | (rw [hy534]; with_reducible exact H) | (have H2_ := (Option.bind_some _ _).symm.trans H; rw [hy534]; with_reducible exact H2_) | (have H2_ := (Option.bind_some _ _).symm.trans H; with_reducible exact H2_) | with_reducible exact H | (rw [hy534]; exact H) | exact H
 have Ny534 := Aside0.mk hy534
 clear hy534
 have H' := Aside0.mk H
 clear H
 go_enter Try.func10, Try.ntmps10
 go_wp2_with (first | ((with_reducible refine gate_dst (N := 10) rfl ?_); (try (refine gate_guard (by rfl) ?_; dsimp only)); refine Kd.R_lit (Kd.int .i64) _ 3 ?hg (N := 10) ?hd (xs := ([(-9223372036854775808), (-2147483648), (-2147483649), (-32769), (-32768), (-1), 0, 1, 8, 9, 10, 11, 16, 32, 64, 32767, 32768, 2147483647, 2147483648, 9223372036854775807] : List Int)) (inner := [.int .i64 (-9223372036854775808), .int .i64 (-2147483648), .int .i64 (-2147483649), .int .i64 (-32769), .int .i64 (-32768), .int .i64 (-1), .int .i64 0, .int .i64 1, .int .i64 8, .int .i64 9, .int .i64 10, .int .i64 11, .int .i64 16, .int .i64 32, .int .i64 64, .int .i64 32767, .int .i64 32768, .int .i64 2147483647, .int .i64 2147483648, .int .i64 9223372036854775807]) (ok := fun _ => True) (okp := fun _ => True) ?hr ?hp (fun _ hk => hk) trivial (Below.refl _ _) (Nat.le_refl _) (by simp) ?_; (case hd => rfl); (case hg => rfl); (case hr => first | (go_simp; done) | (go_simp; rfl)); (case hp => exact (Reps.one (show Kd.M (Kd.int .i64) _ _ _ (-9223372036854775808) [.int .i64 (-9223372036854775808)] from rfl) (Reps.one (show Kd.M (Kd.int .i64) _ _ _ (-2147483648) [.int .i64 (-2147483648)] from rfl) (Reps.one (show Kd.M (Kd.int .i64) _ _ _ (-2147483649) [.int .i64 (-2147483649)] from rfl) (Reps.one (show Kd.M (Kd.int .i64) _ _ _ (-32769) [.int .i64 (-32769)] from rfl) (Reps.one (show Kd.M (Kd.int .i64) _ _ _ (-32768) [.int .i64 (-32768)] from rfl) (Reps.one (show Kd.M (Kd.int .i64) _ _ _ (-1) [.int .i64 (-1)] from rfl) (Reps.one (show Kd.M (Kd.int .i64) _ _ _ 0 [.int .i64 0] from rfl) (Reps.one (show Kd.M (Kd.int .i64) _ _ _ 1 [.int .i64 1] from rfl) (Reps.one (show Kd.M (Kd.int .i64) _ _ _ 8 [.int .i64 8] from rfl) (Reps.one (show Kd.M (Kd.int .i64) _ _ _ 9 [.int .i64 9] from rfl) (Reps.one (show Kd.M (Kd.int .i64) _ _ _ 10 [.int .i64 10] from rfl) (Reps.one (show Kd.M (Kd.int .i64) _ _ _ 11 [.int .i64 11] from rfl) (Reps.one (show Kd.M (Kd.int .i64) _ _ _ 16 [.int .i64 16] from rfl) (Reps.one (show Kd.M (Kd.int .i64) _ _ _ 32 [.int .i64 32] from rfl) (Reps.one (show Kd.M (Kd.int .i64) _ _ _ 64 [.int .i64 64] from rfl) (Reps.one (show Kd.M (Kd.int .i64) _ _ _ 32767 [.int .i64 32767] from rfl) (Reps.one (show Kd.M (Kd.int .i64) _ _ _ 32768 [.int .i64 32768] from rfl) (Reps.one (show Kd.M (Kd.int .i64) _ _ _ 2147483647 [.int .i64 2147483647] from rfl) (Reps.one (show Kd.M (Kd.int .i64) _ _ _ 2147483648 [.int .i64 2147483648] from rfl) (Reps.one (show Kd.M (Kd.int .i64) _ _ _ 9223372036854775807 [.int .i64 9223372036854775807] from rfl) (Reps.none _ _)))))))))))))))))))))); intro v535 w1 ho2 hb hg_ hnew_; clear hg_ hnew_; (first | rw [← Ny534.out] at ho2 | (simp only [Int.reduceToNat] at ho2; rw [← Ny534.out] at ho2)); have HO536 := Aside0.mk (Kd.R_lower ho2 (below_size bz_)); replace HB := bl_ hb; clear hb ho2))
 go_loopg [2] k (fun kq v2 w' => ∃ (x2_1 : Int), v2 = .int .i64 x2_1 ∧ Aside0 (lockgatelaw02_InsnKnown.l0 kq y534 x2_1 = some r) ∧ Aside0 (kq ≤ k) ∧ Aside0 (Kd.R (Kd.int .i64) 3 w' w.heap.size (fun _ => True) v535 y534) ∧ Aside0 (Below w.heap.size w w'))
 case atStart => exact ⟨((-1)), vs_, H', ⟨Nat.le_refl _⟩, ⟨by (with_reducible repeat (first | apply Kd.R_alloc | apply Kd.R_drewN | apply Kd.R_drew)); exact HO536.out⟩, ⟨bz_⟩⟩
 case round =>
  clear H'
  try clear c1
  try clear p2
  obtain ⟨x2_1, rfl, HA, HK1, HO_1, HB⟩ := hrel
  cases gk with
  | zero => exact absurd HA.out (by simp [lockgatelaw02_InsnKnown.l0])
  | succ k1 =>
   have H := HA.out
   clear HA
   simp only [lockgatelaw02_InsnKnown.l0] at H
   by_cases c3 : x2_1 ≤ 256
   ·rw [if_pos c3] at H
    have c3b0 : decide (x2_1 ≤ 256) = true := decide_eq_true c3
    clear c3
    replace H := Option.bind_eq_some_iff.mp H
    obtain ⟨t537, A40, H⟩ := H
    (try dsimp only at H)
    have A4 := Aside0.mk A40
    clear A40
    by_cases c5 : t537 = true
    rotate_left
    ·replace c5 := Bool.eq_false_iff.mpr c5
     subst c5
     have H1 := if0_ H
     clear H
     have H := H1
     clear H1
     exact absurd ((Option.some.inj H).trans HRT.out) (by decide)
    subst c5
    have H1 := if1_ H
    clear H
    have H := H1
    clear H1
    replace H := Option.bind_eq_some_iff.mp H
    obtain ⟨t538, A60, H⟩ := H
    (try dsimp only at H)
    have A6 := Aside0.mk A60
    clear A60
    by_cases c7 : t538 = true
    rotate_left
    ·replace c7 := Bool.eq_false_iff.mpr c7
     subst c7
     have H1 := if0_ H
     clear H
     have H := H1
     clear H1
     exact absurd ((Option.some.inj H).trans HRT.out) (by decide)
    subst c7
    have H1 := if1_ H
    clear H
    have H := H1
    clear H1
    replace H := Option.bind_eq_some_iff.mp H
    obtain ⟨t539, A80, H⟩ := H
    (try dsimp only at H)
    have A8 := Aside0.mk A80
    clear A80
    by_cases c9 : t539 = true
    rotate_left
    ·replace c9 := Bool.eq_false_iff.mpr c9
     subst c9
     have H1 := if0_ H
     clear H
     have H := H1
     clear H1
     exact absurd ((Option.some.inj H).trans HRT.out) (by decide)
    subst c9
    have H1 := if1_ H
    clear H
    have H := H1
    clear H1
    replace H := Option.bind_eq_some_iff.mp H
    obtain ⟨t540, A100, H⟩ := H
    (try dsimp only at H)
    have A10 := Aside0.mk A100
    clear A100
    by_cases c11 : t540 = true
    rotate_left
    ·replace c11 := Bool.eq_false_iff.mpr c11
     subst c11
     have H1 := if0_ H
     clear H
     have H := H1
     clear H1
     exact absurd ((Option.some.inj H).trans HRT.out) (by decide)
    subst c11
    have H1 := if1_ H
    clear H
    have H := H1
    clear H1
    replace H := Option.bind_eq_some_iff.mp H
    obtain ⟨t541, A120, H⟩ := H
    (try dsimp only at H)
    have A12 := Aside0.mk A120
    clear A120
    by_cases c13 : t541 = true
    rotate_left
    ·replace c13 := Bool.eq_false_iff.mpr c13
     subst c13
     have H1 := if0_ H
     clear H
     have H := H1
     clear H1
     exact absurd ((Option.some.inj H).trans HRT.out) (by decide)
    subst c13
    have H1 := if1_ H
    clear H
    have H := H1
    clear H1
    obtain ⟨y542, hy542⟩ : ∃ Y : List Int, Y = (([(x2_1) % 256, 33, 1, 0, 3, 0, 0, 0] : List Int)) := ⟨_, rfl⟩
    replace H : ((lockgatelaw02_InsnGets.f k1 y542).bind fun t545 => (if t545 = true then ((lockgatelaw02_InsnGets.f k1 (([(x2_1) % 256, 1, 0, 0, 32, 0, 0, 0, 0, 0, 0, 0, 0, 0, 0, 128] : List Int))).bind fun t549 => (if t549 = true then (lockgatelaw02_InsnKnown.l0 k1 y534 (wrap64 (x2_1 + 1))) else (some false))) else (some false))) = some r := by first | (rw [hy542]; with_reducible exact H) | (have H2_ := (Option.bind_some _ _).symm.trans H; rw [hy542]; with_reducible exact H2_) | (have H2_ := (Option.bind_some _ _).symm.trans H; with_reducible exact H2_) | with_reducible exact H | (rw [hy542]; exact H) | exact H
    have Ny542 := Aside0.mk hy542
    clear hy542
    replace H := Option.bind_eq_some_iff.mp H
    obtain ⟨t545, A140, H⟩ := H
    (try dsimp only at H)
    have A14 := Aside0.mk A140
    clear A140
    by_cases c15 : t545 = true
    rotate_left
    ·replace c15 := Bool.eq_false_iff.mpr c15
     subst c15
     have H1 := if0_ H
     clear H
     have H := H1
     clear H1
     exact absurd ((Option.some.inj H).trans HRT.out) (by decide)
    subst c15
    have H1 := if1_ H
    clear H
    have H := H1
    clear H1
    obtain ⟨y546, hy546⟩ : ∃ Y : List Int, Y = (([(x2_1) % 256, 1, 0, 0, 32, 0, 0, 0, 0, 0, 0, 0, 0, 0, 0, 128] : List Int)) := ⟨_, rfl⟩
    replace H : ((lockgatelaw02_InsnGets.f k1 y546).bind fun t549 => (if t549 = true then (lockgatelaw02_InsnKnown.l0 k1 y534 (wrap64 (x2_1 + 1))) else (some false))) = some r := by first | (rw [hy546]; with_reducible exact H) | (have H2_ := (Option.bind_some _ _).symm.trans H; rw [hy546]; with_reducible exact H2_) | (have H2_ := (Option.bind_some _ _).symm.trans H; with_reducible exact H2_) | with_reducible exact H | (rw [hy546]; exact H) | exact H
    have Ny546 := Aside0.mk hy546
    clear hy546
    replace H := Option.bind_eq_some_iff.mp H
    obtain ⟨t549, A160, H⟩ := H
    (try dsimp only at H)
    have A16 := Aside0.mk A160
    clear A160
    by_cases c17 : t549 = true
    ·subst c17
     have H1 := if1_ H
     clear H
     have H := H1
     clear H1
     have H' := Aside0.mk H
     clear H
     go_wp2_with (first | ((with_reducible refine gate_callee (f := 9) rfl ?_); refine gM_ 17 Try.func9 (lockgatelaw02_InsnChecks.calls k1 x2_1 0 0 0 0 true _ (.mk rfl) A4.out) ?_; intro w18 hb; replace HO_1 := Aside0.mk (Kd.R_below (ra_ HO_1.out) hb); replace HB := bl_ hb; (try clear hb); (try clear hk); ) | (go_at_call 9; (with_reducible refine (lockgatelaw02_InsnChecks.calls k1 x2_1 10 0 0 0 true _ (.mk rfl) A6.out).mono ?_); rintro e w19 ⟨rfl, hb⟩; replace HO_1 := Aside0.mk (Kd.R_below (ra_ HO_1.out) hb); replace HB := bl_ hb; (try clear hb); (try clear hk); ) | (go_at_call 9; (with_reducible refine (lockgatelaw02_InsnChecks.calls k1 x2_1 0 1 0 0 true _ (.mk rfl) A8.out).mono ?_); rintro e w20 ⟨rfl, hb⟩; replace HO_1 := Aside0.mk (Kd.R_below (ra_ HO_1.out) hb); replace HB := bl_ hb; (try clear hb); (try clear hk); ) | (go_at_call 9; (with_reducible refine (lockgatelaw02_InsnChecks.calls k1 x2_1 0 0 0 16 true _ (.mk rfl) A10.out).mono ?_); rintro e w21 ⟨rfl, hb⟩; replace HO_1 := Aside0.mk (Kd.R_below (ra_ HO_1.out) hb); replace HB := bl_ hb; (try clear hb); (try clear hk); ) | (go_at_call 9; (with_reducible refine (lockgatelaw02_InsnChecks.calls k1 x2_1 0 0 1 0 true _ (.mk rfl) A12.out).mono ?_); rintro e w22 ⟨rfl, hb⟩; replace HO_1 := Aside0.mk (Kd.R_below (ra_ HO_1.out) hb); replace HB := bl_ hb; (try clear hb); (try clear hk); ) | ((with_reducible refine gate_dst (N := 46) rfl ?_); (try (refine gate_guard (by rfl) ?_; dsimp only)); refine Kd.R_lit (Kd.int .u8) _ 5 ?hg (N := 46) ?hd (xs := ([(x2_1) % 256, 33, 1, 0, 3, 0, 0, 0] : List Int)) (inner := [.int .u8 ((x2_1) % 256), .int .u8 33, .int .u8 1, .int .u8 0, .int .u8 3, .int .u8 0, .int .u8 0, .int .u8 0]) (ok := fun _ => True) (okp := fun _ => True) ?hr ?hp (fun _ hk => hk) trivial (Below.refl _ _) (Nat.le_refl _) (by simp) ?_; (case hd => rfl); (case hg => rfl); (case hr => first | (go_simp; done) | (go_simp; rfl)); (case hp => exact (Reps.one (show Kd.M (Kd.int .u8) _ _ _ ((x2_1) % 256) [.int .u8 ((x2_1) % 256)] from rfl) (Reps.one (show Kd.M (Kd.int .u8) _ _ _ 33 [.int .u8 33] from rfl) (Reps.one (show Kd.M (Kd.int .u8) _ _ _ 1 [.int .u8 1] from rfl) (Reps.one (show Kd.M (Kd.int .u8) _ _ _ 0 [.int .u8 0] from rfl) (Reps.one (show Kd.M (Kd.int .u8) _ _ _ 3 [.int .u8 3] from rfl) (Reps.one (show Kd.M (Kd.int .u8) _ _ _ 0 [.int .u8 0] from rfl) (Reps.one (show Kd.M (Kd.int .u8) _ _ _ 0 [.int .u8 0] from rfl) (Reps.one (show Kd.M (Kd.int .u8) _ _ _ 0 [.int .u8 0] from rfl) (Reps.none _ _)))))))))); intro v543 w23 ho24 hb hg_ hnew_; clear hg_ hnew_; (first | rw [← Ny542.out] at ho24 | (simp only [Int.reduceToNat] at ho24; rw [← Ny542.out] at ho24)); have HO544 := Aside0.mk (Kd.R_lower ho24 (below_size bz_)); replace HO_1 := Aside0.mk (Kd.R_below (ra_ HO_1.out) hb); replace HB := bl_ hb; clear hb ho24; obtain ⟨Ao25, co25, eo25⟩ := Kd.R_slice HO544.out; subst eo25) | (go_at_call 4; (with_reducible refine (lockgatelaw02_InsnGets.calls k1 _ _ y542 true _ ?side1 ?side2 (.mk rfl) A14.out).mono ?_); (case side1 => exact ca_ ((Kd.R_reads' HO544.out).2.2)); (case side2 => exact (Kd.R_reads' HO544.out).2.1); rintro e w26 ⟨rfl, hb⟩; replace HO_1 := Aside0.mk (Kd.R_below (ra_ HO_1.out) hb); replace HO544 := Aside0.mk (Kd.R_below (ra_ HO544.out) hb); replace HB := bl_ hb; (try clear hb); (try clear hk); ) | ((with_reducible refine gate_dst (N := 53) rfl ?_); (try (refine gate_guard (by rfl) ?_; dsimp only)); refine Kd.R_lit (Kd.int .u8) _ 5 ?hg (N := 53) ?hd (xs := ([(x2_1) % 256, 1, 0, 0, 32, 0, 0, 0, 0, 0, 0, 0, 0, 0, 0, 128] : List Int)) (inner := [.int .u8 ((x2_1) % 256), .int .u8 1, .int .u8 0, .int .u8 0, .int .u8 32, .int .u8 0, .int .u8 0, .int .u8 0, .int .u8 0, .int .u8 0, .int .u8 0, .int .u8 0, .int .u8 0, .int .u8 0, .int .u8 0, .int .u8 128]) (ok := fun _ => True) (okp := fun _ => True) ?hr ?hp (fun _ hk => hk) trivial (Below.refl _ _) (Nat.le_refl _) (by simp) ?_; (case hd => rfl); (case hg => rfl); (case hr => first | (go_simp; done) | (go_simp; rfl)); (case hp => exact (Reps.one (show Kd.M (Kd.int .u8) _ _ _ ((x2_1) % 256) [.int .u8 ((x2_1) % 256)] from rfl) (Reps.one (show Kd.M (Kd.int .u8) _ _ _ 1 [.int .u8 1] from rfl) (Reps.one (show Kd.M (Kd.int .u8) _ _ _ 0 [.int .u8 0] from rfl) (Reps.one (show Kd.M (Kd.int .u8) _ _ _ 0 [.int .u8 0] from rfl) (Reps.one (show Kd.M (Kd.int .u8) _ _ _ 32 [.int .u8 32] from rfl) (Reps.one (show Kd.M (Kd.int .u8) _ _ _ 0 [.int .u8 0] from rfl) (Reps.one (show Kd.M (Kd.int .u8) _ _ _ 0 [.int .u8 0] from rfl) (Reps.one (show Kd.M (Kd.int .u8) _ _ _ 0 [.int .u8 0] from rfl) (Reps.one (show Kd.M (Kd.int .u8) _ _ _ 0 [.int .u8 0] from rfl) (Reps.one (show Kd.M (Kd.int .u8) _ _ _ 0 [.int .u8 0] from rfl) (Reps.one (show Kd.M (Kd.int .u8) _ _ _ 0 [.int .u8 0] from rfl) (Reps.one (show Kd.M (Kd.int .u8) _ _ _ 0 [.int .u8 0] from rfl) (Reps.one (show Kd.M (Kd.int .u8) _ _ _ 0 [.int .u8 0] from rfl) (Reps.one (show Kd.M (Kd.int .u8) _ _ _ 0 [.int .u8 0] from rfl) (Reps.one (show Kd.M (Kd.int .u8) _ _ _ 0 [.int .u8 0] from rfl) (Reps.one (show Kd.M (Kd.int .u8) _ _ _ 128 [.int .u8 128] from rfl) (Reps.none _ _)))))))))))))))))); intro v547 w27 ho28 hb hg_ hnew_; clear hg_ hnew_; (first | rw [← Ny546.out] at ho28 | (simp only [Int.reduceToNat] at ho28; rw [← Ny546.out] at ho28)); have n0_ := Aside0.mk (Kd.R_below (ra_ HO_1.out) hb); have n1_ := Aside0.mk (Kd.R_elder' (ra_ HO544.out) (Kd.R_base ho28) hb); have n2_ := Aside0.mk (Kd.R_lower (Kd.R_new' ho28 (Kd.R_lt (ra_ HO544.out))) (below_size bz_)); have n3_ := bl_ hb; clear HO_1; clear HO544; clear HB; have HO_1 := n0_; have HO544 := n1_; have HO548 := n2_; have HB := n3_; clear n0_ n1_ n2_ n3_; clear hb ho28; obtain ⟨Ao29, co29, eo29⟩ := Kd.R_slice HO548.out; subst eo29) | (go_at_call 4; (with_reducible refine (lockgatelaw02_InsnGets.calls k1 _ _ y546 true _ ?side1 ?side2 (.mk rfl) A16.out).mono ?_); (case side1 => exact ca_ ((Kd.R_reads' HO548.out).2.2)); (case side2 => exact (Kd.R_reads' HO548.out).2.1); rintro e w30 ⟨rfl, hb⟩; replace HO_1 := Aside0.mk (Kd.R_below (ra_ HO_1.out) hb); replace HO544 := Aside0.mk (Kd.R_below (ra_ HO544.out) hb); replace HO548 := Aside0.mk (Kd.R_below (ra_ HO548.out) hb); replace HB := bl_ hb; (try clear hb); (try clear hk); ))
     go_roundg k1
     case measure => have := HK1.out; omega
     case rel => exact ⟨(wrap64 (x2_1 + 1)), vs_, H', ⟨by have := HK1.out; omega⟩, ⟨by (with_reducible repeat (first | apply Kd.R_alloc | apply Kd.R_drewN | apply Kd.R_drew)); exact HO_1.out⟩, ⟨bz_⟩⟩
    replace c17 := Bool.eq_false_iff.mpr c17
    subst c17
    have H1 := if0_ H
    clear H
    have H := H1
    clear H1
    exact absurd ((Option.some.inj H).trans HRT.out) (by decide)
   rw [if_neg c3] at H
   have c3b0 : decide (x2_1 ≤ 256) = false := decide_eq_false c3
   clear c3
   obtain ⟨y550, hy550⟩ : ∃ Y : List Int, Y = (([24, 97, 98, 99, 121, 183, 191, 135, 212, 220, 5, 21, 29, 22, 133, 149] : List Int)) := ⟨_, rfl⟩
   replace H : (lockgatelaw02_InsnKnown.l1 k1 y534 y550 0) = some r := by first | (rw [hy550]; with_reducible exact H) | (have H2_ := (Option.bind_some _ _).symm.trans H; rw [hy550]; with_reducible exact H2_) | (have H2_ := (Option.bind_some _ _).symm.trans H; with_reducible exact H2_) | with_reducible exact H | (rw [hy550]; exact H) | exact H
   have Ny550 := Aside0.mk hy550
   clear hy550
   have H' := Aside0.mk H
   clear H
   go_wp2_with (first | ((with_reducible refine gate_dst (N := 57) rfl ?_); (try (refine gate_guard (by rfl) ?_; dsimp only)); refine Kd.R_lit (Kd.int .i64) _ 3 ?hg (N := 57) ?hd (xs := ([24, 97, 98, 99, 121, 183, 191, 135, 212, 220, 5, 21, 29, 22, 133, 149] : List Int)) (inner := [.int .i64 24, .int .i64 97, .int .i64 98, .int .i64 99, .int .i64 121, .int .i64 183, .int .i64 191, .int .i64 135, .int .i64 212, .int .i64 220, .int .i64 5, .int .i64 21, .int .i64 29, .int .i64 22, .int .i64 133, .int .i64 149]) (ok := fun _ => True) (okp := fun _ => True) ?hr ?hp (fun _ hk => hk) trivial (Below.refl _ _) (Nat.le_refl _) (by simp) ?_; (case hd => rfl); (case hg => rfl); (case hr => first | (go_simp; done) | (go_simp; rfl)); (case hp => exact (Reps.one (show Kd.M (Kd.int .i64) _ _ _ 24 [.int .i64 24] from rfl) (Reps.one (show Kd.M (Kd.int .i64) _ _ _ 97 [.int .i64 97] from rfl) (Reps.one (show Kd.M (Kd.int .i64) _ _ _ 98 [.int .i64 98] from rfl) (Reps.one (show Kd.M (Kd.int .i64) _ _ _ 99 [.int .i64 99] from rfl) (Reps.one (show Kd.M (Kd.int .i64) _ _ _ 121 [.int .i64 121] from rfl) (Reps.one (show Kd.M (Kd.int .i64) _ _ _ 183 [.int .i64 183] from rfl) (Reps.one (show Kd.M (Kd.int .i64) _ _ _ 191 [.int .i64 191] from rfl) (Reps.one (show Kd.M (Kd.int .i64) _ _ _ 135 [.int .i64 135] from rfl) (Reps.one (show Kd.M (Kd.int .i64) _ _ _ 212 [.int .i64 212] from rfl) (Reps.one (show Kd.M (Kd.int .i64) _ _ _ 220 [.int .i64 220] from rfl) (Reps.one (show Kd.M (Kd.int .i64) _ _ _ 5 [.int .i64 5] from rfl) (Reps.one (show Kd.M (Kd.int .i64) _ _ _ 21 [.int .i64 21] from rfl) (Reps.one (show Kd.M (Kd.int .i64) _ _ _ 29 [.int .i64 29] from rfl) (Reps.one (show Kd.M (Kd.int .i64) _ _ _ 22 [.int .i64 22] from rfl) (Reps.one (show Kd.M (Kd.int .i64) _ _ _ 133 [.int .i64 133] from rfl) (Reps.one (show Kd.M (Kd.int .i64) _ _ _ 149 [.int .i64 149] from rfl) (Reps.none _ _)))))))))))))))))); intro v551 w31 ho32 hb hg_ hnew_; clear hg_ hnew_; (first | rw [← Ny550.out] at ho32 | (simp only [Int.reduceToNat] at ho32; rw [← Ny550.out] at ho32)); have n0_ := Aside0.mk (Kd.R_elder' (ra_ HO_1.out) (Kd.R_base ho32) hb); have n1_ := Aside0.mk (Kd.R_lower (Kd.R_new' ho32 (Kd.R_lt (ra_ HO_1.out))) (below_size bz_)); have n2_ := bl_ hb; clear HO_1; clear HB; have HO_1 := n0_; have HO552 := n1_; have HB := n2_; clear n0_ n1_ n2_; clear hb ho32))
   go_loopg [4] k1 (fun kq v4 w' => ∃ (x4_2 : Int), v4 = .int .i64 x4_2 ∧ Aside0 (lockgatelaw02_InsnKnown.l1 kq y534 y550 x4_2 = some r) ∧ Aside0 (kq ≤ k1) ∧ Aside0 (Kd.R (Kd.int .i64) 3 w' w.heap.size (fun k_ => some k_ ≠ (v551 : Value).ownBlock) v535 y534) ∧ Aside0 (Kd.R (Kd.int .i64) 3 w' w.heap.size (fun k_ => some k_ ≠ (v535 : Value).ownBlock) v551 y550) ∧ Aside0 (Below w.heap.size w w'))
   case atStart => exact ⟨(0), vs_, H', ⟨Nat.le_refl _⟩, ⟨by (with_reducible repeat (first | apply Kd.R_alloc | apply Kd.R_drewN | apply Kd.R_drew)); exact Kd.R_mono HO_1.out (fun _ hk => hk.2)⟩, ⟨by (with_reducible repeat (first | apply Kd.R_alloc | apply Kd.R_drewN | apply Kd.R_drew)); exact Kd.R_mono HO552.out (fun _ hk => hk.2)⟩, ⟨bz_⟩⟩
   case round =>
    clear H'
    try clear c1
    try clear p2
    try clear c3
    try clear c3b0
    try clear c5
    try clear p6
    try clear c7
    try clear c9
    try clear c10
    try clear c11
    try clear c13
    try clear c15
    try clear c17
    try clear p2
    obtain ⟨x4_2, rfl, HA, HK2, HO_1, HO_3, HB⟩ := hrel
    cases gk with
    | zero => exact absurd HA.out (by simp [lockgatelaw02_InsnKnown.l1])
    | succ k2 =>
     have H := HA.out
     clear HA
     simp only [lockgatelaw02_InsnKnown.l1] at H
     by_cases c33 : x4_2 < (y550.length : Int)
     rotate_left
     ·rw [if_neg c33] at H
      have c33b0 : decide (x4_2 < (y550.length : Int)) = false := decide_eq_false c33
      clear c33
      have H' := Aside0.mk H
      clear H
      obtain ⟨Ao63, co63, eo63⟩ := Kd.R_slice HO_3.out
      subst eo63
      go_wp2
      go_loopg [6, 7] k2 (fun kq v6 v7 w' => ∃ (x6_3 : List (S40)) (x7_3 : Int), v7 = .int .i64 x7_3 ∧ Aside0 (lockgatelaw02_InsnKnown.l3 kq x6_3 x7_3 = some r) ∧ Aside0 (kq ≤ k2) ∧ Aside0 (Kd.R k40 40 w' w.heap.size (fun _ => True) v6 x6_3) ∧ Aside0 (Below w.heap.size w w'))
      case atStart => exact ⟨(([] : List (S40))), (0), vs_, H', ⟨Nat.le_refl _⟩, ⟨by first | exact Kd.R_nil _ _ _ _ _ | exact Kd.N_nil _ _ _ _ _ | exact Kd.V_nil _ _ _ _ _ | exact Kd.Q_nil _ _ _ _ _ | exact Kd.S_nil _ _ _ _ _⟩, ⟨bz_⟩⟩
      case round =>
       clear H'
       try clear p2
       try clear c3
       try clear c4
       try clear c5
       try clear p6
       try clear c9
       try clear c33
       try clear c33b0
       try clear c35
       try clear c35b0
       try clear c36
       try clear c37
       try clear c38
       try clear c40
       try clear c42
       try clear c44
       try clear c46
       try clear c48
       try clear c50
       obtain ⟨x6_3, x7_3, rfl, HA, HK3, HO_6, HB⟩ := hrel
       cases gk with
       | zero => exact absurd HA.out (by simp [lockgatelaw02_InsnKnown.l3])
       | succ k3 =>
        have H := HA.out
        clear HA
        simp only [lockgatelaw02_InsnKnown.l3] at H
        by_cases c64 : x7_3 < 258
        ·rw [if_pos c64] at H
         have c64b0 : decide (x7_3 < 258) = true := decide_eq_true c64
         clear c64
         by_cases c65 : x6_3.length < 3518437208883
         rotate_left
         ·rw [if_neg c65] at H
          exact absurd H (by simp)
         rw [if_pos c65] at H
         have LMc65 := Aside0.mk c65
         clear c65
         obtain ⟨y576, hy576⟩ : ∃ Y : List (S40), Y = (x6_3 ++ [(⟨183, Int.tmod x7_3 10, 0, 0, x7_3⟩ : S40)]) := ⟨_, rfl⟩
         replace H : (if x7_3 > 253 then ((lockgatelaw02_InsnPuts.f k3 y576).bind fun t579 => (if t579 = true then ((lockgatelaw02_InsnBack.f k3 y576).bind fun t580 => (if t580 = true then ((lockgatelaw02_InsnCut.f k3 y576 (wrap64 ((wrap64 (8 * x7_3)) - 3))).bind fun t581 => (if t581 = true then (lockgatelaw02_InsnKnown.l3 k3 y576 (wrap64 (x7_3 + 1))) else (some false))) else (some false))) else (some false))) else (lockgatelaw02_InsnKnown.l3 k3 y576 (wrap64 (x7_3 + 1)))) = some r := by first | (rw [hy576]; with_reducible exact H) | (have H2_ := (Option.bind_some _ _).symm.trans H; rw [hy576]; with_reducible exact H2_) | (have H2_ := (Option.bind_some _ _).symm.trans H; with_reducible exact H2_) | with_reducible exact H | (rw [hy576]; exact H) | exact H
         have Ny576 := Aside0.mk hy576
         clear hy576
         by_cases c66 : x7_3 > 253
         rotate_left
         ·rw [if_neg c66] at H
          have c66b0 : decide (253 < x7_3) = false := decide_eq_false c66
          clear c66
          have H' := Aside0.mk H
          clear H
          go_wp2_with (first | ((with_reducible refine gate_builtin (b := .append) (xs := #[.tmp 160, .tmp 165]) rfl ?_); (try (refine gate_guard (by rfl) ?_; dsimp only)); at_builtin; refine Kd.R_append k40 (w0 := w) w.heap.size rfl (.tmp 160) (.tmp 165) 22 40 (.agg #[(.int .i64 0), (.int .i64 0), (.int .i64 0), (.int .i64 0), (.int .i64 0)]) 40 rfl Try.underlying22 info40 rfl (by decide) (by omega) u6 x6_3 (⟨183, Int.tmod x7_3 10, 0, 0, x7_3⟩ : S40) [.int .i64 183, .int .i64 (Int.tmod x7_3 10), .int .i64 0, .int .i64 0, .int .i64 x7_3] (fun _ => True) (fun _ => False) rfl rfl ?aP (fun _ hk => hk.elim) ?aF ?aO ?aB ?aS ?aL ?_; (case aP => exact k40_mkM _ _ _ (⟨183, Int.tmod x7_3 10, 0, 0, x7_3⟩ : S40)); (case aB => exact bz_); (case aF => exact (fun _ _ => trivial)); (case aO => exact (ra_ HO_6.out)); (case aS => exact (below_size bz_)); (case aL => have := LMc65.out; omega); intro v577 w78 ho hb hg hat; rw [← Ny576.out] at ho; have n0_ := Aside0.mk (hb); have n1_ := Aside0.mk (ho); clear HB; clear HO_6; have HB := n0_; have HO578 := n1_; clear n0_ n1_; clear ho hb hg hat))
          go_roundg k3
          case measure => have := HK1.out; have := HK2.out; have := HK3.out; omega
          case rel => exact ⟨(y576), (wrap64 (x7_3 + 1)), vs_, H', ⟨by have := HK1.out; have := HK2.out; have := HK3.out; omega⟩, ⟨by (with_reducible repeat (first | apply Kd.R_alloc | apply Kd.R_drewN | apply Kd.R_drew)); exact HO578.out⟩, ⟨bz_⟩⟩
         rw [if_pos c66] at H
         have c66b0 : decide (253 < x7_3) = true := decide_eq_true c66
         clear c66
         replace H := Option.bind_eq_some_iff.mp H
         obtain ⟨t579, A670, H⟩ := H
         (try dsimp only at H)
         have A67 := Aside0.mk A670
         clear A670
         by_cases c68 : t579 = true
         rotate_left
         ·replace c68 := Bool.eq_false_iff.mpr c68
          subst c68
          have H1 := if0_ H
          clear H
          have H := H1
          clear H1
          exact absurd ((Option.some.inj H).trans HRT.out) (by decide)
         subst c68
         have H1 := if1_ H
         clear H
         have H := H1
         clear H1
         replace H := Option.bind_eq_some_iff.mp H
         obtain ⟨t580, A690, H⟩ := H
         (try dsimp only at H)
         have A69 := Aside0.mk A690
         clear A690
         by_cases c70 : t580 = true
         ·subst c70
          have H1 := if1_ H
          clear H
          have H := H1
          clear H1
          replace H := Option.bind_eq_some_iff.mp H
          obtain ⟨t581, A710, H⟩ := H
          (try dsimp only at H)
          have A71 := Aside0.mk A710
          clear A710
          by_cases c72 : t581 = true
          ·subst c72
           have H1 := if1_ H
           clear H
           have H := H1
           clear H1
           have H' := Aside0.mk H
           clear H
           go_wp2_with (first | ((with_reducible refine gate_builtin (b := .append) (xs := #[.tmp 160, .tmp 165]) rfl ?_); (try (refine gate_guard (by rfl) ?_; dsimp only)); at_builtin; refine Kd.R_append k40 (w0 := w) w.heap.size rfl (.tmp 160) (.tmp 165) 22 40 (.agg #[(.int .i64 0), (.int .i64 0), (.int .i64 0), (.int .i64 0), (.int .i64 0)]) 40 rfl Try.underlying22 info40 rfl (by decide) (by omega) u6 x6_3 (⟨183, Int.tmod x7_3 10, 0, 0, x7_3⟩ : S40) [.int .i64 183, .int .i64 (Int.tmod x7_3 10), .int .i64 0, .int .i64 0, .int .i64 x7_3] (fun _ => True) (fun _ => False) rfl rfl ?aP (fun _ hk => hk.elim) ?aF ?aO ?aB ?aS ?aL ?_; (case aP => exact k40_mkM _ _ _ (⟨183, Int.tmod x7_3 10, 0, 0, x7_3⟩ : S40)); (case aB => exact bz_); (case aF => exact (fun _ _ => trivial)); (case aO => exact (ra_ HO_6.out)); (case aS => exact (below_size bz_)); (case aL => have := LMc65.out; omega); intro v577 w73 ho hb hg hat; rw [← Ny576.out] at ho; have n0_ := Aside0.mk (hb); have n1_ := Aside0.mk (ho); clear HB; clear HO_6; have HB := n0_; have HO578 := n1_; clear n0_ n1_; clear ho hb hg hat; obtain ⟨Ao74, co74, eo74⟩ := Kd.R_slice HO578.out; subst eo74) | (go_at_call 3; (with_reducible refine (lockgatelaw02_InsnPuts.calls k3 _ _ y576 true _ ?side1 ?side2 (.mk rfl) A67.out).mono ?_); (case side1 => exact ca_ ((Kd.R_reads' HO578.out).2.2)); (case side2 => exact (Kd.R_reads' HO578.out).2.1); rintro e w75 ⟨rfl, hb⟩; replace HO578 := Aside0.mk (Kd.R_below (ra_ HO578.out) hb); replace HB := bl_ hb; (try clear hb); (try clear hk); ) | (go_at_call 5; (with_reducible refine (lockgatelaw02_InsnBack.calls k3 _ _ y576 true _ ?side1 ?side2 (.mk rfl) A69.out).mono ?_); (case side1 => exact ca_ ((Kd.R_reads' HO578.out).2.2)); (case side2 => exact (Kd.R_reads' HO578.out).2.1); rintro e w76 ⟨rfl, hb⟩; replace HO578 := Aside0.mk (Kd.R_below (ra_ HO578.out) hb); replace HB := bl_ hb; (try clear hb); (try clear hk); ) | (go_at_call 8; (with_reducible refine (lockgatelaw02_InsnCut.calls k3 _ _ y576 (wrap64 ((wrap64 (8 * x7_3)) - 3)) true _ ?side1 ?side2 (.mk rfl) A71.out).mono ?_); (case side1 => exact ca_ ((Kd.R_reads' HO578.out).2.2)); (case side2 => exact (Kd.R_reads' HO578.out).2.1); rintro e w77 ⟨rfl, hb⟩; replace HO578 := Aside0.mk (Kd.R_below (ra_ HO578.out) hb); replace HB := bl_ hb; (try clear hb); (try clear hk); ))
           go_roundg k3
           case measure => have := HK1.out; have := HK2.out; have := HK3.out; omega
           case rel => exact ⟨(y576), (wrap64 (x7_3 + 1)), vs_, H', ⟨by have := HK1.out; have := HK2.out; have := HK3.out; omega⟩, ⟨by (with_reducible repeat (first | apply Kd.R_alloc | apply Kd.R_drewN | apply Kd.R_drew)); exact HO578.out⟩, ⟨bz_⟩⟩
          replace c72 := Bool.eq_false_iff.mpr c72
          subst c72
          have H1 := if0_ H
          clear H
          have H := H1
          clear H1
          exact absurd ((Option.some.inj H).trans HRT.out) (by decide)
         replace c70 := Bool.eq_false_iff.mpr c70
         subst c70
         have H1 := if0_ H
         clear H
         have H := H1
         clear H1
         exact absurd ((Option.some.inj H).trans HRT.out) (by decide)
        rw [if_neg c64] at H
        have c64b0 : decide (x7_3 < 258) = false := decide_eq_false c64
        clear c64
        have H' := Aside0.mk H
        clear H
        go_wp2
        go_loopg [8, 9] k3 (fun kq v8 v9 w' => ∃ (x8_4 : List Int) (x9_4 : Int), v9 = .int .i64 x9_4 ∧ Aside0 (lockgatelaw02_InsnKnown.l4 kq x8_4 x9_4 = some r) ∧ Aside0 (kq ≤ k3) ∧ Aside0 (Kd.R (Kd.int .u8) 5 w' w.heap.size (fun _ => True) v8 x8_4) ∧ Aside0 (Below w.heap.size w w'))
        case atStart => exact ⟨(([] : List Int)), (0), vs_, H', ⟨Nat.le_refl _⟩, ⟨by first | exact Kd.R_nil _ _ _ _ _ | exact Kd.N_nil _ _ _ _ _ | exact Kd.V_nil _ _ _ _ _ | exact Kd.Q_nil _ _ _ _ _ | exact Kd.S_nil _ _ _ _ _⟩, ⟨bz_⟩⟩
        case round =>
         clear H'
         try clear p2
         try clear c3
         try clear c4
         try clear c5
         try clear c6
         try clear p6
         try clear c7
         try clear c9
         try clear c33
         try clear c33b0
         try clear c35
         try clear c35b0
         try clear c36
         try clear c37
         try clear c38
         try clear c40
         try clear c42
         try clear c44
         try clear c46
         try clear c48
         try clear c50
         try clear c64
         try clear c64b0
         try clear p64
         try clear c65
         try clear c66
         try clear c66b0
         try clear c68
         try clear c70
         try clear c72
         try clear p2
         try clear p6
         obtain ⟨x8_4, x9_4, rfl, HA, HK4, HO_8, HB⟩ := hrel
         cases gk with
         | zero => exact absurd HA.out (by simp [lockgatelaw02_InsnKnown.l4])
         | succ k4 =>
          have H := HA.out
          clear HA
          simp only [lockgatelaw02_InsnKnown.l4] at H
          by_cases c79 : x9_4 < 2056
          ·rw [if_pos c79] at H
           have c79b0 : decide (x9_4 < 2056) = true := decide_eq_true c79
           clear c79
           obtain ⟨y582, hy582⟩ : ∃ Y : List Int, Y = (([149, 0, 0, 0, 0, 0, 0, 0] : List Int)) := ⟨_, rfl⟩
           replace H : (if 0 ≤ (Int.tmod x9_4 8) then (if (Int.tmod x9_4 8) < (y582.length : Int) then (if x8_4.length < 140737488355328 then (lockgatelaw02_InsnKnown.l4 k4 (x8_4 ++ [rd y582 (Int.tmod x9_4 8)]) (wrap64 (x9_4 + 1))) else (none)) else (none)) else (none)) = some r := by first | (rw [hy582]; with_reducible exact H) | (have H2_ := (Option.bind_some _ _).symm.trans H; rw [hy582]; with_reducible exact H2_) | (have H2_ := (Option.bind_some _ _).symm.trans H; with_reducible exact H2_) | with_reducible exact H | (rw [hy582]; exact H) | exact H
           have Ny582 := Aside0.mk hy582
           clear hy582
           obtain ⟨ji80, hji80⟩ : ∃ j_ : Int, (Int.tmod x9_4 8) = j_ := ⟨_, rfl⟩
           replace H : (if 0 ≤ (ji80) then (if (ji80) < (y582.length : Int) then (if x8_4.length < 140737488355328 then (lockgatelaw02_InsnKnown.l4 k4 (x8_4 ++ [rd y582 (ji80)]) (wrap64 (x9_4 + 1))) else (none)) else (none)) else (none)) = some r := by first | (rw [hji80] at H; exact H) | (simp only [hji80] at H ⊢; exact H)
           by_cases c81 : 0 ≤ (ji80)
           ·rw [if_pos c81] at H
            have c81b0 : decide (0 ≤ (ji80)) = true := decide_eq_true c81
            clear c81
            by_cases c82 : (ji80) < (y582.length : Int)
            ·rw [if_pos c82] at H
             have c82b0 : decide ((ji80) < (y582.length : Int)) = true := decide_eq_true c82
             clear c82
             by_cases c83 : x8_4.length < 140737488355328
             ·rw [if_pos c83] at H
              have LMc83 := Aside0.mk c83
              clear c83
              obtain ⟨y586, hy586⟩ : ∃ Y : List Int, Y = (x8_4 ++ [rd y582 (ji80)]) := ⟨_, rfl⟩
              replace H : (lockgatelaw02_InsnKnown.l4 k4 y586 (wrap64 (x9_4 + 1))) = some r := by first | (rw [hy586]; with_reducible exact H) | (have H2_ := (Option.bind_some _ _).symm.trans H; rw [hy586]; with_reducible exact H2_) | (have H2_ := (Option.bind_some _ _).symm.trans H; with_reducible exact H2_) | with_reducible exact H | (rw [hy586]; exact H) | exact H
              have Ny586 := Aside0.mk hy586
              clear hy586
              have H' := Aside0.mk H
              clear H
              go_wp2_with (first | ((with_reducible refine gate_dst (N := 192) rfl ?_); (try (refine gate_guard (by rfl) ?_; dsimp only)); refine Kd.R_lit (Kd.int .u8) _ 5 ?hg (N := 192) ?hd (xs := ([149, 0, 0, 0, 0, 0, 0, 0] : List Int)) (inner := [.int .u8 149, .int .u8 0, .int .u8 0, .int .u8 0, .int .u8 0, .int .u8 0, .int .u8 0, .int .u8 0]) (ok := fun _ => True) (okp := fun _ => True) ?hr ?hp (fun _ hk => hk) trivial (Below.refl _ _) (Nat.le_refl _) (by simp) ?_; (case hd => rfl); (case hg => rfl); (case hr => first | (go_simp; done) | (go_simp; rfl)); (case hp => exact (Reps.one (show Kd.M (Kd.int .u8) _ _ _ 149 [.int .u8 149] from rfl) (Reps.one (show Kd.M (Kd.int .u8) _ _ _ 0 [.int .u8 0] from rfl) (Reps.one (show Kd.M (Kd.int .u8) _ _ _ 0 [.int .u8 0] from rfl) (Reps.one (show Kd.M (Kd.int .u8) _ _ _ 0 [.int .u8 0] from rfl) (Reps.one (show Kd.M (Kd.int .u8) _ _ _ 0 [.int .u8 0] from rfl) (Reps.one (show Kd.M (Kd.int .u8) _ _ _ 0 [.int .u8 0] from rfl) (Reps.one (show Kd.M (Kd.int .u8) _ _ _ 0 [.int .u8 0] from rfl) (Reps.one (show Kd.M (Kd.int .u8) _ _ _ 0 [.int .u8 0] from rfl) (Reps.none _ _)))))))))); intro v583 w84 ho85 hb hg_ hnew_; clear hg_ hnew_; (first | rw [← Ny582.out] at ho85 | (simp only [Int.reduceToNat] at ho85; rw [← Ny582.out] at ho85)); have n0_ := Aside0.mk (Kd.R_elder' (ra_ HO_8.out) (Kd.R_base ho85) hb); have n1_ := Aside0.mk (Kd.R_lower (Kd.R_new' ho85 (Kd.R_lt (ra_ HO_8.out))) (below_size bz_)); have n2_ := bl_ hb; clear HO_8; clear HB; have HO_8 := n0_; have HO584 := n1_; have HB := n2_; clear n0_ n1_ n2_; clear hb ho85; obtain ⟨Ao86, co86, eo86⟩ := Kd.R_slice HO584.out; subst eo86; have p585 : 0 ≤ ((ji80) : Int) := of_decide_eq_true as_; have q585 : (ji80) < (y582.length : Int) := of_decide_eq_true as_; obtain ⟨ad585, e585, hx585_0⟩ := Kd.at_int (Kd.R_reads' HO584.out).2.2 (ji80) p585 q585; cases e585; replace p585 := eq_true p585; replace q585 := eq_true q585) | ((with_reducible refine gate_builtin (b := .append) (xs := #[.tmp 191, .tmp 197]) rfl ?_); (try (refine gate_guard (by rfl) ?_; dsimp only)); at_builtin; refine Kd.R_append (Kd.int .u8) (w0 := w) w.heap.size rfl (.tmp 191) (.tmp 197) 25 5 (.int .u8 0) 1 rfl Try.underlying25 info5 rfl (by decide) (by omega) u8 x8_4 (rd y582 (ji80)) [.int .u8 (rd y582 (ji80))] (fun k_ => some k_ ≠ (.slice (some ad585) y582.length co86 : Value).ownBlock) (fun _ => False) rfl rfl ?aP (fun _ hk => hk.elim) ?aF ?aO ?aB ?aS ?aL ?_; (case aP => exact rfl); (case aB => exact bz_); (case aF => exact (fun k_ hk => Kd.fresh' (Kd.R_lt (ra_ HO584.out)) k_ hk)); (case aO => exact (ra_ (Kd.R_mono HO_8.out (fun _ hk => hk.2)))); (case aS => exact (below_size bz_)); (case aL => have := LMc83.out; omega); intro v587 w87 ho hb hg hat; rw [← Ny586.out] at ho; have n0_ := Aside0.mk (Kd.R_after (ok := (fun _ => True)) (ra_ HO584.out) hg hat); have n1_ := Aside0.mk (hb); have n2_ := Aside0.mk (ho); clear HO584; clear HB; clear HO_8; have HO584 := n0_; have HB := n1_; have HO588 := n2_; clear n0_ n1_ n2_; clear ho hb hg hat))
              go_roundg k4
              case measure => have := HK1.out; have := HK2.out; have := HK3.out; have := HK4.out; omega
              case rel => exact ⟨(y586), (wrap64 (x9_4 + 1)), vs_, H', ⟨by have := HK1.out; have := HK2.out; have := HK3.out; have := HK4.out; omega⟩, ⟨by (with_reducible repeat (first | apply Kd.R_alloc | apply Kd.R_drewN | apply Kd.R_drew)); exact Kd.R_mono HO588.out (fun _ hk => trivial)⟩, ⟨bz_⟩⟩
             rw [if_neg c83] at H
             exact absurd H (by simp)
            rw [if_neg c82] at H
            exact absurd H (by simp)
           rw [if_neg c81] at H
           exact absurd H (by simp)
          rw [if_neg c79] at H
          have c79b0 : decide (x9_4 < 2056) = false := decide_eq_false c79
          clear c79
          replace H := Option.bind_eq_some_iff.mp H
          obtain ⟨t589, A880, H⟩ := H
          (try dsimp only at H)
          have A88 := Aside0.mk A880
          clear A880
          by_cases c89 : t589 = true
          rotate_left
          ·replace c89 := Bool.eq_false_iff.mpr c89
           subst c89
           have H1 := if0_ H
           clear H
           have H := H1
           clear H1
           exact absurd ((Option.some.inj H).trans HRT.out) (by decide)
          subst c89
          have H1 := if1_ H
          clear H
          have H := H1
          clear H1
          by_cases c90 : 2048 ≤ (x8_4.length : Int)
          rotate_left
          ·rw [if_neg c90] at H
           exact absurd H (by simp)
          rw [if_pos c90] at H
          have c90b0 := eq_true c90
          have c90b1 : decide (2048 ≤ (x8_4.length : Int)) = true := decide_eq_true c90
          clear c90
          obtain ⟨y590, hy590⟩ : ∃ Y : List Int, Y = (x8_4.take 2048) := ⟨_, rfl⟩
          replace H : ((lockgatelaw02_InsnGets.f k4 y590).bind fun t594 => (if t594 = true then (if 2051 ≤ (x8_4.length : Int) then ((lockgatelaw02_InsnGets.f k4 (x8_4.take 2051)).bind fun t599 => (if t599 = true then ((lockgatelaw02_works.f k4).bind fun t600 => (some t600)) else (some false))) else (none)) else (some false))) = some r := by first | (rw [hy590]; with_reducible exact H) | (have H2_ := (Option.bind_some _ _).symm.trans H; rw [hy590]; with_reducible exact H2_) | (have H2_ := (Option.bind_some _ _).symm.trans H; with_reducible exact H2_) | with_reducible exact H | (rw [hy590]; exact H) | exact H
          have Ny590 := Aside0.mk hy590
          clear hy590
          replace H := Option.bind_eq_some_iff.mp H
          obtain ⟨t594, A910, H⟩ := H
          (try dsimp only at H)
          have A91 := Aside0.mk A910
          clear A910
          by_cases c92 : t594 = true
          rotate_left
          ·replace c92 := Bool.eq_false_iff.mpr c92
           subst c92
           have H1 := if0_ H
           clear H
           have H := H1
           clear H1
           exact absurd ((Option.some.inj H).trans HRT.out) (by decide)
          subst c92
          have H1 := if1_ H
          clear H
          have H := H1
          clear H1
          by_cases c93 : 2051 ≤ (x8_4.length : Int)
          rotate_left
          ·rw [if_neg c93] at H
           exact absurd H (by simp)
          rw [if_pos c93] at H
          have c93b0 := eq_true c93
          have c93b1 : decide (2051 ≤ (x8_4.length : Int)) = true := decide_eq_true c93
          clear c93
          obtain ⟨y595, hy595⟩ : ∃ Y : List Int, Y = (x8_4.take 2051) := ⟨_, rfl⟩
          replace H : ((lockgatelaw02_InsnGets.f k4 y595).bind fun t599 => (if t599 = true then ((lockgatelaw02_works.f k4).bind fun t600 => (some t600)) else (some false))) = some r := by first | (rw [hy595]; with_reducible exact H) | (have H2_ := (Option.bind_some _ _).symm.trans H; rw [hy595]; with_reducible exact H2_) | (have H2_ := (Option.bind_some _ _).symm.trans H; with_reducible exact H2_) | with_reducible exact H | (rw [hy595]; exact H) | exact H
          have Ny595 := Aside0.mk hy595
          clear hy595
          replace H := Option.bind_eq_some_iff.mp H
          obtain ⟨t599, A940, H⟩ := H
          (try dsimp only at H)
          have A94 := Aside0.mk A940
          clear A940
          by_cases c95 : t599 = true
          ·subst c95
           have H1 := if1_ H
           clear H
           have H := H1
           clear H1
           replace H := Option.bind_eq_some_iff.mp H
           obtain ⟨t600, A960, H⟩ := H
           (try dsimp only at H)
           have A96 := Aside0.mk A960
           clear A960
           obtain rfl := Option.some.inj H
           obtain ⟨Ao97, co97, eo97⟩ := Kd.R_slice HO_8.out
           subst eo97
           go_wp2_with (first | ((with_reducible refine gate_callee (f := 4) rfl ?_); refine goesL_ (some 200) rfl rfl Try.func4 (by kernel_rfl) rfl #[.slice Ao97 x8_4.length co97] rfl mp_ ?_; (with_reducible refine (lockgatelaw02_InsnGets.calls k4 _ _ x8_4 true _ ?side1 ?side2 (.mk rfl) A88.out).mono ?_); (case side1 => exact ca_ ((Kd.R_reads' HO_8.out).2.2)); (case side2 => exact (Kd.R_reads' HO_8.out).2.1); rintro e w98 ⟨rfl, hb⟩; refine ⟨_, rfl, ?_⟩; replace HO_8 := Aside0.mk (Kd.R_below (ra_ HO_8.out) hb); replace HB := bl_ hb; (try clear hb); (try clear hk); have q99 : (2048 : Int) ≤ ((x8_4.length : Int) : Int) := of_decide_eq_true as_; obtain ⟨i099, hi099, _, hsz99, _⟩ := info_parts info5; have hroom99 : x8_4.length ≤ co97 := (Kd.R_reads' HO_8.out).2.1; have hC99 : Kd.C (Kd.int .u8) _ Ao97 x8_4.length x8_4 := (Kd.R_reads' HO_8.out).2.2; have hcut99 := cut_to (P := Try.prog) 25 5 .i64 Try.underlying25 hi099 Ao97 x8_4.length co97 2048 (by omega) q99 hroom99; have hr99 := Kd.C_take (m := 2048) hC99 (by omega); have hy99 : y590.length = (2048 : Int).toNat := (by rw [Ny590.out, List.length_take]; omega); rw [← Ny590.out] at hr99; rw [← hy99] at hcut99; have HR593 := Aside0.mk hr99; have HC593 := Aside0.mk (show y590.length ≤ co97 from by omega); clear hr99 hC99 hroom99 hi099 hsz99; have KY99 := Aside0.mk hy99; clear hy99; have KL99 := Aside0.mk (show 2048 ≤ x8_4.length from by omega); replace q99 := eq_true q99) | (go_at_call 4; (with_reducible refine (lockgatelaw02_InsnGets.calls k4 _ _ y590 true _ ?side1 ?side2 (.mk rfl) A91.out).mono ?_); (case side1 => repeat (first | exact (by repeat (first | (with_reducible exact HR593.out) | (with_reducible refine Kd.C_alloc ?_ _) | (with_reducible refine Kd.C_drewN ?_ _) | (with_reducible refine Kd.C_drew ?_) | exact HR593.out)) | (with_reducible refine Kd.C_alloc ?_ _) | (with_reducible refine Kd.C_drewN ?_ _) | (with_reducible refine Kd.C_drew ?_))); (case side2 => exact HC593.out); rintro e w100 ⟨rfl, hb⟩; replace HO_8 := Aside0.mk (Kd.R_below (ra_ HO_8.out) hb); replace HR593 := Aside0.mk (Kd.C_below (by repeat (first | (with_reducible exact HR593.out) | (with_reducible refine Kd.C_alloc ?_ _) | (with_reducible refine Kd.C_drewN ?_ _) | (with_reducible refine Kd.C_drew ?_) | exact HR593.out)) hb); replace HB := bl_ hb; (try clear hb); (try clear hk); have q101 : (2051 : Int) ≤ ((x8_4.length : Int) : Int) := of_decide_eq_true as_; obtain ⟨i0101, hi0101, _, hsz101, _⟩ := info_parts info5; have hroom101 : x8_4.length ≤ co97 := (Kd.R_reads' HO_8.out).2.1; have hC101 : Kd.C (Kd.int .u8) _ Ao97 x8_4.length x8_4 := (Kd.R_reads' HO_8.out).2.2; have hcut101 := cut_to (P := Try.prog) 25 5 .i64 Try.underlying25 hi0101 Ao97 x8_4.length co97 2051 (by omega) q101 hroom101; have hr101 := Kd.C_take (m := 2051) hC101 (by omega); have hy101 : y595.length = (2051 : Int).toNat := (by rw [Ny595.out, List.length_take]; omega); rw [← Ny595.out] at hr101; rw [← hy101] at hcut101; have HR598 := Aside0.mk hr101; have HC598 := Aside0.mk (show y595.length ≤ co97 from by omega); clear hr101 hC101 hroom101 hi0101 hsz101; have KY101 := Aside0.mk hy101; clear hy101; have KL101 := Aside0.mk (show 2051 ≤ x8_4.length from by omega); replace q101 := eq_true q101) | (go_at_call 4; (with_reducible refine (lockgatelaw02_InsnGets.calls k4 _ _ y595 true _ ?side1 ?side2 (.mk rfl) A94.out).mono ?_); (case side1 => repeat (first | exact (by repeat (first | (with_reducible exact HR598.out) | (with_reducible refine Kd.C_alloc ?_ _) | (with_reducible refine Kd.C_drewN ?_ _) | (with_reducible refine Kd.C_drew ?_) | exact HR598.out)) | (with_reducible refine Kd.C_alloc ?_ _) | (with_reducible refine Kd.C_drewN ?_ _) | (with_reducible refine Kd.C_drew ?_))); (case side2 => exact HC598.out); rintro e w102 ⟨rfl, hb⟩; replace HO_8 := Aside0.mk (Kd.R_below (ra_ HO_8.out) hb); replace HR593 := Aside0.mk (Kd.C_below (by repeat (first | (with_reducible exact HR593.out) | (with_reducible refine Kd.C_alloc ?_ _) | (with_reducible refine Kd.C_drewN ?_ _) | (with_reducible refine Kd.C_drew ?_) | exact HR593.out)) hb); replace HR598 := Aside0.mk (Kd.C_below (by repeat (first | (with_reducible exact HR598.out) | (with_reducible refine Kd.C_alloc ?_ _) | (with_reducible refine Kd.C_drewN ?_ _) | (with_reducible refine Kd.C_drew ?_) | exact HR598.out)) hb); replace HB := bl_ hb; (try clear hb); (try clear hk); ) | (go_at_call 11; (with_reducible refine (lockgatelaw02_works.calls k4  t600 _ A96.out).mono ?_); rintro e w103 ⟨rfl, hb⟩; replace HO_8 := Aside0.mk (Kd.R_below (ra_ HO_8.out) hb); replace HR593 := Aside0.mk (Kd.C_below (by repeat (first | (with_reducible exact HR593.out) | (with_reducible refine Kd.C_alloc ?_ _) | (with_reducible refine Kd.C_drewN ?_ _) | (with_reducible refine Kd.C_drew ?_) | exact HR593.out)) hb); replace HR598 := Aside0.mk (Kd.C_below (by repeat (first | (with_reducible exact HR598.out) | (with_reducible refine Kd.C_alloc ?_ _) | (with_reducible refine Kd.C_drewN ?_ _) | (with_reducible refine Kd.C_drew ?_) | exact HR598.out)) hb); replace HB := bl_ hb; (try clear hb); (try clear hk); ))
           go_ret
           exact ⟨vv_, bz_⟩
          replace c95 := Bool.eq_false_iff.mpr c95
          subst c95
          have H1 := if0_ H
          clear H
          have H := H1
          clear H1
          exact absurd ((Option.some.inj H).trans HRT.out) (by decide)
     rw [if_pos c33] at H
     have c33b0 : decide (x4_2 < (y550.length : Int)) = true := decide_eq_true c33
     clear c33
     have H' := Aside0.mk H
     clear H
     obtain ⟨Ao34, co34, eo34⟩ := Kd.R_slice HO_3.out
     subst eo34
     go_wp2
     go_loopg [5] k2 (fun kq v5 w' => ∃ (x5_3 : Int), v5 = .int .i64 x5_3 ∧ Aside0 (lockgatelaw02_InsnKnown.l2 kq y534 y550 x4_2 x5_3 = some r) ∧ Aside0 (kq ≤ k2) ∧ Aside0 (Kd.R (Kd.int .i64) 3 w' w.heap.size (fun k_ => some k_ ≠ ((.slice Ao34 y550.length co34) : Value).ownBlock) v535 y534) ∧ Aside0 (Kd.R (Kd.int .i64) 3 w' w.heap.size (fun k_ => some k_ ≠ (v535 : Value).ownBlock) (.slice Ao34 y550.length co34) y550) ∧ Aside0 (Below w.heap.size w w'))
     case atStart => exact ⟨(0), vs_, H', ⟨Nat.le_refl _⟩, ⟨by (with_reducible repeat (first | apply Kd.R_alloc | apply Kd.R_drewN | apply Kd.R_drew)); exact HO_1.out⟩, ⟨by (with_reducible repeat (first | apply Kd.R_alloc | apply Kd.R_drewN | apply Kd.R_drew)); exact HO_3.out⟩, ⟨bz_⟩⟩
     case round =>
      clear H'
      try clear c1
      try clear p2
      try clear c3
      try clear c3b0
      try clear c5
      try clear p6
      try clear c7
      try clear c9
      try clear c10
      try clear c11
      try clear c13
      try clear c15
      try clear c17
      try clear c33
      try clear c33b0
      try clear p2
      try clear p6
      obtain ⟨x5_3, rfl, HA, HK3, HO_1, HO_3, HB⟩ := hrel
      cases gk with
      | zero => exact absurd HA.out (by simp [lockgatelaw02_InsnKnown.l2])
      | succ k3 =>
       have H := HA.out
       clear HA
       simp only [lockgatelaw02_InsnKnown.l2] at H
       by_cases c35 : x5_3 < (y534.length : Int)
       rotate_left
       ·rw [if_neg c35] at H
        have c35b0 : decide (x5_3 < (y534.length : Int)) = false := decide_eq_false c35
        clear c35
        have H' := Aside0.mk H
        clear H
        obtain ⟨Ao62, co62, eo62⟩ := Kd.R_slice HO_1.out
        subst eo62
        go_wp2
        go_roundg k3
        case measure => have := HK1.out; have := HK2.out; have := HK3.out; omega
        case rel => exact ⟨(wrap64 (x4_2 + 1)), vs_, H', ⟨by have := HK1.out; have := HK2.out; have := HK3.out; omega⟩, ⟨by (with_reducible repeat (first | apply Kd.R_alloc | apply Kd.R_drewN | apply Kd.R_drew)); exact HO_1.out⟩, ⟨by (with_reducible repeat (first | apply Kd.R_alloc | apply Kd.R_drewN | apply Kd.R_drew)); exact HO_3.out⟩, ⟨bz_⟩⟩
       rw [if_pos c35] at H
       have c35b0 : decide (x5_3 < (y534.length : Int)) = true := decide_eq_true c35
       clear c35
       by_cases c36 : 0 ≤ x4_2
       rotate_left
       ·rw [if_neg c36] at H
        exact absurd H (by simp)
       rw [if_pos c36] at H
       have c36b0 : decide (0 ≤ x4_2) = true := decide_eq_true c36
       clear c36
       by_cases c37 : x4_2 < (y550.length : Int)
       rotate_left
       ·rw [if_neg c37] at H
        exact absurd H (by simp)
       rw [if_pos c37] at H
       have c37b0 : decide (x4_2 < (y550.length : Int)) = true := decide_eq_true c37
       clear c37
       by_cases c38 : 0 ≤ x5_3
       rotate_left
       ·rw [if_neg c38] at H
        exact absurd H (by simp)
       rw [if_pos c38] at H
       have c38b0 : decide (0 ≤ x5_3) = true := decide_eq_true c38
       clear c38
       replace H := Option.bind_eq_some_iff.mp H
       obtain ⟨t555, A390, H⟩ := H
       (try dsimp only at H)
       have A39 := Aside0.mk A390
       clear A390
       by_cases c40 : t555 = true
       rotate_left
       ·replace c40 := Bool.eq_false_iff.mpr c40
        subst c40
        have H1 := if0_ H
        clear H
        have H := H1
        clear H1
        exact absurd ((Option.some.inj H).trans HRT.out) (by decide)
       subst c40
       have H1 := if1_ H
       clear H
       have H := H1
       clear H1
       replace H := Option.bind_eq_some_iff.mp H
       obtain ⟨t558, A410, H⟩ := H
       (try dsimp only at H)
       have A41 := Aside0.mk A410
       clear A410
       by_cases c42 : t558 = true
       rotate_left
       ·replace c42 := Bool.eq_false_iff.mpr c42
        subst c42
        have H1 := if0_ H
        clear H
        have H := H1
        clear H1
        exact absurd ((Option.some.inj H).trans HRT.out) (by decide)
       subst c42
       have H1 := if1_ H
       clear H
       have H := H1
       clear H1
       replace H := Option.bind_eq_some_iff.mp H
       obtain ⟨t561, A430, H⟩ := H
       (try dsimp only at H)
       have A43 := Aside0.mk A430
       clear A430
       by_cases c44 : t561 = true
       rotate_left
       ·replace c44 := Bool.eq_false_iff.mpr c44
        subst c44
        have H1 := if0_ H
        clear H
        have H := H1
        clear H1
        exact absurd ((Option.some.inj H).trans HRT.out) (by decide)
       subst c44
       have H1 := if1_ H
       clear H
       have H := H1
       clear H1
       replace H := Option.bind_eq_some_iff.mp H
       obtain ⟨t564, A450, H⟩ := H
       (try dsimp only at H)
       have A45 := Aside0.mk A450
       clear A450
       by_cases c46 : t564 = true
       rotate_left
       ·replace c46 := Bool.eq_false_iff.mpr c46
        subst c46
        have H1 := if0_ H
        clear H
        have H := H1
        clear H1
        exact absurd ((Option.some.inj H).trans HRT.out) (by decide)
       subst c46
       have H1 := if1_ H
       clear H
       have H := H1
       clear H1
       replace H := Option.bind_eq_some_iff.mp H
       obtain ⟨t567, A470, H⟩ := H
       (try dsimp only at H)
       have A47 := Aside0.mk A470
       clear A470
       by_cases c48 : t567 = true
       rotate_left
       ·replace c48 := Bool.eq_false_iff.mpr c48
        subst c48
        have H1 := if0_ H
        clear H
        have H := H1
        clear H1
        exact absurd ((Option.some.inj H).trans HRT.out) (by decide)
       subst c48
       have H1 := if1_ H
       clear H
       have H := H1
       clear H1
       obtain ⟨y572, hy572⟩ : ∃ Y : List (S40), Y = (([(⟨rd y550 x4_2, 0, 0, 0, rd y534 x5_3⟩ : S40), (⟨rd y550 x4_2, 0, 0, rd y534 x5_3, 0⟩ : S40)] : List (S40))) := ⟨_, rfl⟩
       replace H : ((lockgatelaw02_InsnPuts.f k3 y572).bind fun t575 => (if t575 = true then (lockgatelaw02_InsnKnown.l2 k3 y534 y550 x4_2 (wrap64 (x5_3 + 1))) else (some false))) = some r := by first | (rw [hy572]; with_reducible exact H) | (have H2_ := (Option.bind_some _ _).symm.trans H; rw [hy572]; with_reducible exact H2_) | (have H2_ := (Option.bind_some _ _).symm.trans H; with_reducible exact H2_) | with_reducible exact H | (rw [hy572]; exact H) | exact H
       have Ny572 := Aside0.mk hy572
       clear hy572
       replace H := Option.bind_eq_some_iff.mp H
       obtain ⟨t575, A490, H⟩ := H
       (try dsimp only at H)
       have A49 := Aside0.mk A490
       clear A490
       by_cases c50 : t575 = true
       rotate_left
       ·replace c50 := Bool.eq_false_iff.mpr c50
        subst c50
        have H1 := if0_ H
        clear H
        have H := H1
        clear H1
        exact absurd ((Option.some.inj H).trans HRT.out) (by decide)
       subst c50
       have H1 := if1_ H
       clear H
       have H := H1
       clear H1
       have H' := Aside0.mk H
       clear H
       obtain ⟨Ao51, co51, eo51⟩ := Kd.R_slice HO_1.out
       subst eo51
       try go_wp2
       replace HO_1 := Aside0.mk (Kd.R_drew HO_1.out)
       replace HO_3 := Aside0.mk (Kd.R_drew HO_3.out)
       replace HB := Aside0.mk (below_drew1 HB.out)
       have p553 : 0 ≤ (x4_2 : Int) := of_decide_eq_true as_
       have q553 : x4_2 < (y550.length : Int) := of_decide_eq_true as_
       obtain ⟨ad553, e553, hx553_0⟩ := Kd.at_int (Kd.R_reads' HO_3.out).2.2 x4_2 p553 q553
       cases e553
       replace p553 := eq_true p553
       replace q553 := eq_true q553
       have p554 : 0 ≤ (x5_3 : Int) := of_decide_eq_true as_
       have q554 : x5_3 < (y534.length : Int) := of_decide_eq_true as_
       obtain ⟨ad554, e554, hx554_0⟩ := Kd.at_int (Kd.R_reads' HO_1.out).2.2 x5_3 p554 q554
       cases e554
       replace p554 := eq_true p554
       replace q554 := eq_true q554
       have p556 : 0 ≤ (x4_2 : Int) := of_decide_eq_true as_
       have q556 : x4_2 < (y550.length : Int) := of_decide_eq_true as_
       obtain ⟨ad556, e556, hx556_0⟩ := Kd.at_int (Kd.R_reads' HO_3.out).2.2 x4_2 p556 q556
       obtain rfl : ad553 = ad556 := (by injection e556)
       replace p556 := eq_true p556
       replace q556 := eq_true q556
       have p557 : 0 ≤ (x5_3 : Int) := of_decide_eq_true as_
       have q557 : x5_3 < (y534.length : Int) := of_decide_eq_true as_
       obtain ⟨ad557, e557, hx557_0⟩ := Kd.at_int (Kd.R_reads' HO_1.out).2.2 x5_3 p557 q557
       obtain rfl : ad554 = ad557 := (by injection e557)
       replace p557 := eq_true p557
       replace q557 := eq_true q557
       have p559 : 0 ≤ (x4_2 : Int) := of_decide_eq_true as_
       have q559 : x4_2 < (y550.length : Int) := of_decide_eq_true as_
       obtain ⟨ad559, e559, hx559_0⟩ := Kd.at_int (Kd.R_reads' HO_3.out).2.2 x4_2 p559 q559
       obtain rfl : ad553 = ad559 := (by injection e559)
       replace p559 := eq_true p559
       replace q559 := eq_true q559
       have p560 : 0 ≤ (x5_3 : Int) := of_decide_eq_true as_
       have q560 : x5_3 < (y534.length : Int) := of_decide_eq_true as_
       obtain ⟨ad560, e560, hx560_0⟩ := Kd.at_int (Kd.R_reads' HO_1.out).2.2 x5_3 p560 q560
       obtain rfl : ad554 = ad560 := (by injection e560)
       replace p560 := eq_true p560
       replace q560 := eq_true q560
       have p562 : 0 ≤ (x4_2 : Int) := of_decide_eq_true as_
       have q562 : x4_2 < (y550.length : Int) := of_decide_eq_true as_
       obtain ⟨ad562, e562, hx562_0⟩ := Kd.at_int (Kd.R_reads' HO_3.out).2.2 x4_2 p562 q562
       obtain rfl : ad553 = ad562 := (by injection e562)
       replace p562 := eq_true p562
       replace q562 := eq_true q562
       have p563 : 0 ≤ (x5_3 : Int) := of_decide_eq_true as_
       have q563 : x5_3 < (y534.length : Int) := of_decide_eq_true as_
       obtain ⟨ad563, e563, hx563_0⟩ := Kd.at_int (Kd.R_reads' HO_1.out).2.2 x5_3 p563 q563
       obtain rfl : ad554 = ad563 := (by injection e563)
       replace p563 := eq_true p563
       replace q563 := eq_true q563
       have p565 : 0 ≤ (x4_2 : Int) := of_decide_eq_true as_
       have q565 : x4_2 < (y550.length : Int) := of_decide_eq_true as_
       obtain ⟨ad565, e565, hx565_0⟩ := Kd.at_int (Kd.R_reads' HO_3.out).2.2 x4_2 p565 q565
       obtain rfl : ad553 = ad565 := (by injection e565)
       replace p565 := eq_true p565
       replace q565 := eq_true q565
       have p566 : 0 ≤ (x5_3 : Int) := of_decide_eq_true as_
       have q566 : x5_3 < (y534.length : Int) := of_decide_eq_true as_
       obtain ⟨ad566, e566, hx566_0⟩ := Kd.at_int (Kd.R_reads' HO_1.out).2.2 x5_3 p566 q566
       obtain rfl : ad554 = ad566 := (by injection e566)
       replace p566 := eq_true p566
       replace q566 := eq_true q566
       have p568 : 0 ≤ (x4_2 : Int) := of_decide_eq_true as_
       have q568 : x4_2 < (y550.length : Int) := of_decide_eq_true as_
       obtain ⟨ad568, e568, hx568_0⟩ := Kd.at_int (Kd.R_reads' HO_3.out).2.2 x4_2 p568 q568
       obtain rfl : ad553 = ad568 := (by injection e568)
       replace p568 := eq_true p568
       replace q568 := eq_true q568
       have p569 : 0 ≤ (x5_3 : Int) := of_decide_eq_true as_
       have q569 : x5_3 < (y534.length : Int) := of_decide_eq_true as_
       obtain ⟨ad569, e569, hx569_0⟩ := Kd.at_int (Kd.R_reads' HO_1.out).2.2 x5_3 p569 q569
       obtain rfl : ad554 = ad569 := (by injection e569)
       replace p569 := eq_true p569
       replace q569 := eq_true q569
       have p570 : 0 ≤ (x4_2 : Int) := of_decide_eq_true as_
       have q570 : x4_2 < (y550.length : Int) := of_decide_eq_true as_
       obtain ⟨ad570, e570, hx570_0⟩ := Kd.at_int (Kd.R_reads' HO_3.out).2.2 x4_2 p570 q570
       obtain rfl : ad553 = ad570 := (by injection e570)
       replace p570 := eq_true p570
       replace q570 := eq_true q570
       have p571 : 0 ≤ (x5_3 : Int) := of_decide_eq_true as_
       have q571 : x5_3 < (y534.length : Int) := of_decide_eq_true as_
       obtain ⟨ad571, e571, hx571_0⟩ := Kd.at_int (Kd.R_reads' HO_1.out).2.2 x5_3 p571 q571
       obtain rfl : ad554 = ad571 := (by injection e571)
       replace p571 := eq_true p571
       replace q571 := eq_true q571
       refine start_ (n := 86) (S := fun w' => w'.cell? (ad553.add (x4_2).toNat) = some (.int .i64 (rd y550 x4_2)) ∧ w'.cell? (ad554.add (x5_3).toNat) = some (.int .i64 (rd y534 x5_3)) ∧ w'.cell? (ad553.add (x4_2).toNat) = some (.int .i64 (rd y550 x4_2)) ∧ w'.cell? (ad554.add (x5_3).toNat) = some (.int .i64 (rd y534 x5_3)) ∧ w'.cell? (ad553.add (x4_2).toNat) = some (.int .i64 (rd y550 x4_2)) ∧ w'.cell? (ad554.add (x5_3).toNat) = some (.int .i64 (rd y534 x5_3)) ∧ w'.cell? (ad553.add (x4_2).toNat) = some (.int .i64 (rd y550 x4_2)) ∧ w'.cell? (ad554.add (x5_3).toNat) = some (.int .i64 (rd y534 x5_3)) ∧ w'.cell? (ad553.add (x4_2).toNat) = some (.int .i64 (rd y550 x4_2)) ∧ w'.cell? (ad554.add (x5_3).toNat) = some (.int .i64 (rd y534 x5_3)) ∧ w'.cell? (ad553.add (x4_2).toNat) = some (.int .i64 (rd y550 x4_2)) ∧ w'.cell? (ad554.add (x5_3).toNat) = some (.int .i64 (rd y534 x5_3)) ∧ w'.cell? (ad553.add (x4_2).toNat) = some (.int .i64 (rd y550 x4_2)) ∧ w'.cell? (ad554.add (x5_3).toNat) = some (.int .i64 (rd y534 x5_3))) (ds := []) #[Z,Z,Z,Z,Z,Z,Z,Z,Z,Z,Z,Z,Z,Z,Z,Z,Z,Z,Z,Z,Z,Z,Z,Z,Z,Z,Z,Z,Z,Z,Z,Z,Z,Z,Z,Z,Z,Z,Z,Z,Z,Z,Z,Z,Z,Z,Z,Z,Z,Z,Z,Z,Z,Z,Z,Z,Z,Z,Z,Z,Z,Z,Z,Z,Z,Z,Z,Z,Z,Z,Z,Z,Z,Z,Z,Z,Z,Z,Z,Z,Z,Z,Z,Z,Z,Z] (by kernel_rfl) rfl rfl ⟨hx553_0, hx554_0, hx556_0, hx557_0, hx559_0, hx560_0, hx562_0, hx563_0, hx565_0, hx566_0, hx568_0, hx569_0, hx570_0, hx571_0⟩ (fun hHeld => ?_); refine with_tabW lockgatelaw02_InsnKnown.tab14 lockgatelaw02_InsnKnown.bits14 (fun HT_ HW_ => ?_)
       generalize wr.drew = w52 at HO_1 HO_3 HB hx553_0 hx554_0 hx556_0 hx557_0 hx559_0 hx560_0 hx562_0 hx563_0 hx565_0 hx566_0 hx568_0 hx569_0 hx570_0 hx571_0 hHeld ⊢
       refine pq_ 0 70 #[Y,Z,Z,Z,Z,Z,Z,Z,Z,Z,Z,Z,Z,Z,Z,Z,Z,Z,Z,Z,Z,Z,Z,Z,Z,Z,Z,Z,Z,Z,Z,Z,Z,Z,Z,Z,Z,Z,Z,Z,Z,Z,Z,Z,Z,Z,Z,Z,Z,Z,Z,Z,Z,Z,Z,Z,Z,Z,Z,Z,Z,Z,Z,Z,Z,Z,Z,Z,Z,Z,Z,Z,Z,Z,Z,Z,Z,Z,Z,Z,Z,Z,Z,Z,Z,Z] ?_
       refine pq_ 1 71 #[Y,Y,Z,Z,Z,Z,Z,Z,Z,Z,Z,Z,Z,Z,Z,Z,Z,Z,Z,Z,Z,Z,Z,Z,Z,Z,Z,Z,Z,Z,Z,Z,Z,Z,Z,Z,Z,Z,Z,Z,Z,Z,Z,Z,Z,Z,Z,Z,Z,Z,Z,Z,Z,Z,Z,Z,Z,Z,Z,Z,Z,Z,Z,Z,Z,Z,Z,Z,Z,Z,Z,Z,Z,Z,Z,Z,Z,Z,Z,Z,Z,Z,Z,Z,Z,Z] ?_
       refine pq_ 2 72 #[Y,Y,Y,Z,Z,Z,Z,Z,Z,Z,Z,Z,Z,Z,Z,Z,Z,Z,Z,Z,Z,Z,Z,Z,Z,Z,Z,Z,Z,Z,Z,Z,Z,Z,Z,Z,Z,Z,Z,Z,Z,Z,Z,Z,Z,Z,Z,Z,Z,Z,Z,Z,Z,Z,Z,Z,Z,Z,Z,Z,Z,Z,Z,Z,Z,Z,Z,Z,Z,Z,Z,Z,Z,Z,Z,Z,Z,Z,Z,Z,Z,Z,Z,Z,Z,Z] ?_
       refine pq_ 4 74 #[Y,Y,Y,Z,Y,Z,Z,Z,Z,Z,Z,Z,Z,Z,Z,Z,Z,Z,Z,Z,Z,Z,Z,Z,Z,Z,Z,Z,Z,Z,Z,Z,Z,Z,Z,Z,Z,Z,Z,Z,Z,Z,Z,Z,Z,Z,Z,Z,Z,Z,Z,Z,Z,Z,Z,Z,Z,Z,Z,Z,Z,Z,Z,Z,Z,Z,Z,Z,Z,Z,Z,Z,Z,Z,Z,Z,Z,Z,Z,Z,Z,Z,Z,Z,Z,Z] ?_
       refine pq_ 5 75 #[Y,Y,Y,Z,Y,Y,Z,Z,Z,Z,Z,Z,Z,Z,Z,Z,Z,Z,Z,Z,Z,Z,Z,Z,Z,Z,Z,Z,Z,Z,Z,Z,Z,Z,Z,Z,Z,Z,Z,Z,Z,Z,Z,Z,Z,Z,Z,Z,Z,Z,Z,Z,Z,Z,Z,Z,Z,Z,Z,Z,Z,Z,Z,Z,Z,Z,Z,Z,Z,Z,Z,Z,Z,Z,Z,Z,Z,Z,Z,Z,Z,Z,Z,Z,Z,Z] ?_
       refine pq_ 6 76 #[Y,Y,Y,Z,Y,Y,Y,Z,Z,Z,Z,Z,Z,Z,Z,Z,Z,Z,Z,Z,Z,Z,Z,Z,Z,Z,Z,Z,Z,Z,Z,Z,Z,Z,Z,Z,Z,Z,Z,Z,Z,Z,Z,Z,Z,Z,Z,Z,Z,Z,Z,Z,Z,Z,Z,Z,Z,Z,Z,Z,Z,Z,Z,Z,Z,Z,Z,Z,Z,Z,Z,Z,Z,Z,Z,Z,Z,Z,Z,Z,Z,Z,Z,Z,Z,Z] ?_
       refine tq2_ 3 73 #[Y,Y,Y,Y,Y,Y,Y,Z,Z,Z,Z,Z,Z,Z,Z,Z,Z,Z,Z,Z,Z,Z,Z,Z,Z,Z,Z,Z,Z,Z,Z,Z,Z,Z,Z,Z,Z,Z,Z,Z,Z,Z,Z,Z,Z,Z,Z,Z,Z,Z,Z,Z,Z,Z,Z,Z,Z,Z,Z,Z,Z,Z,Z,Z,Z,Z,Z,Z,Z,Z,Z,Z,Z,Z,Z,Z,Z,Z,Z,Z,Z,Z,Z,Z,Z,Z] hHeld ?_
       refine tq2_ 7 77 #[Y,Y,Y,Y,Y,Y,Y,Y,Z,Z,Z,Z,Z,Z,Z,Z,Z,Z,Z,Z,Z,Z,Z,Z,Z,Z,Z,Z,Z,Z,Z,Z,Z,Z,Z,Z,Z,Z,Z,Z,Z,Z,Z,Z,Z,Z,Z,Z,Z,Z,Z,Z,Z,Z,Z,Z,Z,Z,Z,Z,Z,Z,Z,Z,Z,Z,Z,Z,Z,Z,Z,Z,Z,Z,Z,Z,Z,Z,Z,Z,Z,Z,Z,Z,Z,Z] hHeld ?_
       refine pq_ 8 78 #[Y,Y,Y,Y,Y,Y,Y,Y,Y,Z,Z,Z,Z,Z,Z,Z,Z,Z,Z,Z,Z,Z,Z,Z,Z,Z,Z,Z,Z,Z,Z,Z,Z,Z,Z,Z,Z,Z,Z,Z,Z,Z,Z,Z,Z,Z,Z,Z,Z,Z,Z,Z,Z,Z,Z,Z,Z,Z,Z,Z,Z,Z,Z,Z,Z,Z,Z,Z,Z,Z,Z,Z,Z,Z,Z,Z,Z,Z,Z,Z,Z,Z,Z,Z,Z,Z] ?_
       refine one_ (i := 9) (N := some 79) #[Y,Y,Y,Y,Y,Y,Y,Y,Y,Y,Z,Z,Z,Z,Z,Z,Z,Z,Z,Z,Z,Z,Z,Z,Z,Z,Z,Z,Z,Z,Z,Z,Z,Z,Z,Z,Z,Z,Z,Z,Z,Z,Z,Z,Z,Z,Z,Z,Z,Z,Z,Z,Z,Z,Z,Z,Z,Z,Z,Z,Z,Z,Z,Z,Z,Z,Z,Z,Z,Z,Z,Z,Z,Z,Z,Z,Z,Z,Z,Z,Z,Z,Z,Z,Z,Z] rfl rfl (one_of HT_.out (by kernel_rfl)) (by decide) (fun K hK => ?_)
       refine goes_ Try.func9 (by kernel_rfl) rfl #[.agg #[.int .i64 (rd y550 x4_2), .int .i64 (rd y534 x5_3), .int .i64 0, .int .i64 0, .int .i64 0]] (by rfl) rfl rfl mp_ ?_
       with_reducible refine (lockgatelaw02_InsnChecks.calls k3 (rd y550 x4_2) (rd y534 x5_3) 0 0 0 true _ (.mk rfl) A39.out).mono ?_
       rintro e w53 ⟨rfl, hb⟩
       have HS0_ := (hb.cell (World.block_lt_of_cell? _ _ (hHeld.1))).trans (hHeld.1)
       have HS1_ := (hb.cell (World.block_lt_of_cell? _ _ (hHeld.2.1))).trans (hHeld.2.1)
       have HS2_ := (hb.cell (World.block_lt_of_cell? _ _ (hHeld.2.2.1))).trans (hHeld.2.2.1)
       have HS3_ := (hb.cell (World.block_lt_of_cell? _ _ (hHeld.2.2.2.1))).trans (hHeld.2.2.2.1)
       have HS4_ := (hb.cell (World.block_lt_of_cell? _ _ (hHeld.2.2.2.2.1))).trans (hHeld.2.2.2.2.1)
       have HS5_ := (hb.cell (World.block_lt_of_cell? _ _ (hHeld.2.2.2.2.2.1))).trans (hHeld.2.2.2.2.2.1)
       have HS6_ := (hb.cell (World.block_lt_of_cell? _ _ (hHeld.2.2.2.2.2.2.1))).trans (hHeld.2.2.2.2.2.2.1)
       have HS7_ := (hb.cell (World.block_lt_of_cell? _ _ (hHeld.2.2.2.2.2.2.2.1))).trans (hHeld.2.2.2.2.2.2.2.1)
       have HS8_ := (hb.cell (World.block_lt_of_cell? _ _ (hHeld.2.2.2.2.2.2.2.2.1))).trans (hHeld.2.2.2.2.2.2.2.2.1)
       have HS9_ := (hb.cell (World.block_lt_of_cell? _ _ (hHeld.2.2.2.2.2.2.2.2.2.1))).trans (hHeld.2.2.2.2.2.2.2.2.2.1)
       have HS10_ := (hb.cell (World.block_lt_of_cell? _ _ (hHeld.2.2.2.2.2.2.2.2.2.2.1))).trans (hHeld.2.2.2.2.2.2.2.2.2.2.1)
       have HS11_ := (hb.cell (World.block_lt_of_cell? _ _ (hHeld.2.2.2.2.2.2.2.2.2.2.2.1))).trans (hHeld.2.2.2.2.2.2.2.2.2.2.2.1)
       have HS12_ := (hb.cell (World.block_lt_of_cell? _ _ (hHeld.2.2.2.2.2.2.2.2.2.2.2.2.1))).trans (hHeld.2.2.2.2.2.2.2.2.2.2.2.2.1)
       have HS13_ := (hb.cell (World.block_lt_of_cell? _ _ (hHeld.2.2.2.2.2.2.2.2.2.2.2.2.2))).trans (hHeld.2.2.2.2.2.2.2.2.2.2.2.2.2)
       refine ⟨_, rfl, ?_⟩
       replace HO_1 := Aside0.mk (Kd.R_below (ra_ HO_1.out) hb)
       replace HO_3 := Aside0.mk (Kd.R_below (ra_ HO_3.out) hb)
       replace HB := bl_ hb
       try clear hb
       refine hK.out _ _ ⟨HS0_, HS1_, HS2_, HS3_, HS4_, HS5_, HS6_, HS7_, HS8_, HS9_, HS10_, HS11_, HS12_, HS13_⟩ (fun hHeld => ?_)
       clear hK K
       refine norm_ (a' := ?_) ?_ ?_
       rotate_left
       ·show Act.put _ (some 79) _ = _
        simp only [Act.put, s1_, s2_, s3_, i64_w, i32_w]
        rfl
       refine pq_ 10 80 #[Y,Y,Y,Y,Y,Y,Y,Y,Y,Y,Y,Z,Z,Z,Z,Z,Z,Z,Z,Z,Z,Z,Z,Z,Z,Z,Z,Z,Z,Z,Z,Z,Z,Z,Z,Z,Z,Z,Z,Z,Z,Z,Z,Z,Z,Z,Z,Z,Z,Z,Z,Z,Z,Z,Z,Z,Z,Z,Z,Z,Z,Z,Z,Z,Z,Z,Z,Z,Z,Z,Z,Z,Z,Z,Z,Z,Z,Z,Z,Z,Z,Z,Z,Z,Z,Z] ?_
       refine pq_ 11 81 #[Y,Y,Y,Y,Y,Y,Y,Y,Y,Y,Y,Y,Z,Z,Z,Z,Z,Z,Z,Z,Z,Z,Z,Z,Z,Z,Z,Z,Z,Z,Z,Z,Z,Z,Z,Z,Z,Z,Z,Z,Z,Z,Z,Z,Z,Z,Z,Z,Z,Z,Z,Z,Z,Z,Z,Z,Z,Z,Z,Z,Z,Z,Z,Z,Z,Z,Z,Z,Z,Z,Z,Z,Z,Z,Z,Z,Z,Z,Z,Z,Z,Z,Z,Z,Z,Z] ?_
       refine pq_ 12 82 #[Y,Y,Y,Y,Y,Y,Y,Y,Y,Y,Y,Y,Y,Z,Z,Z,Z,Z,Z,Z,Z,Z,Z,Z,Z,Z,Z,Z,Z,Z,Z,Z,Z,Z,Z,Z,Z,Z,Z,Z,Z,Z,Z,Z,Z,Z,Z,Z,Z,Z,Z,Z,Z,Z,Z,Z,Z,Z,Z,Z,Z,Z,Z,Z,Z,Z,Z,Z,Z,Z,Z,Z,Z,Z,Z,Z,Z,Z,Z,Z,Z,Z,Z,Z,Z,Z] ?_
       refine pq_ 13 83 #[Y,Y,Y,Y,Y,Y,Y,Y,Y,Y,Y,Y,Y,Y,Z,Z,Z,Z,Z,Z,Z,Z,Z,Z,Z,Z,Z,Z,Z,Z,Z,Z,Z,Z,Z,Z,Z,Z,Z,Z,Z,Z,Z,Z,Z,Z,Z,Z,Z,Z,Z,Z,Z,Z,Z,Z,Z,Z,Z,Z,Z,Z,Z,Z,Z,Z,Z,Z,Z,Z,Z,Z,Z,Z,Z,Z,Z,Z,Z,Z,Z,Z,Z,Z,Z,Z] ?_
       refine pq_ 14 84 #[Y,Y,Y,Y,Y,Y,Y,Y,Y,Y,Y,Y,Y,Y,Y,Z,Z,Z,Z,Z,Z,Z,Z,Z,Z,Z,Z,Z,Z,Z,Z,Z,Z,Z,Z,Z,Z,Z,Z,Z,Z,Z,Z,Z,Z,Z,Z,Z,Z,Z,Z,Z,Z,Z,Z,Z,Z,Z,Z,Z,Z,Z,Z,Z,Z,Z,Z,Z,Z,Z,Z,Z,Z,Z,Z,Z,Z,Z,Z,Z,Z,Z,Z,Z,Z,Z] ?_
       refine pq_ 16 86 #[Y,Y,Y,Y,Y,Y,Y,Y,Y,Y,Y,Y,Y,Y,Y,Z,Y,Z,Z,Z,Z,Z,Z,Z,Z,Z,Z,Z,Z,Z,Z,Z,Z,Z,Z,Z,Z,Z,Z,Z,Z,Z,Z,Z,Z,Z,Z,Z,Z,Z,Z,Z,Z,Z,Z,Z,Z,Z,Z,Z,Z,Z,Z,Z,Z,Z,Z,Z,Z,Z,Z,Z,Z,Z,Z,Z,Z,Z,Z,Z,Z,Z,Z,Z,Z,Z] ?_
       refine pq_ 17 87 #[Y,Y,Y,Y,Y,Y,Y,Y,Y,Y,Y,Y,Y,Y,Y,Z,Y,Y,Z,Z,Z,Z,Z,Z,Z,Z,Z,Z,Z,Z,Z,Z,Z,Z,Z,Z,Z,Z,Z,Z,Z,Z,Z,Z,Z,Z,Z,Z,Z,Z,Z,Z,Z,Z,Z,Z,Z,Z,Z,Z,Z,Z,Z,Z,Z,Z,Z,Z,Z,Z,Z,Z,Z,Z,Z,Z,Z,Z,Z,Z,Z,Z,Z,Z,Z,Z] ?_
       refine pq_ 18 88 #[Y,Y,Y,Y,Y,Y,Y,Y,Y,Y,Y,Y,Y,Y,Y,Z,Y,Y,Y,Z,Z,Z,Z,Z,Z,Z,Z,Z,Z,Z,Z,Z,Z,Z,Z,Z,Z,Z,Z,Z,Z,Z,Z,Z,Z,Z,Z,Z,Z,Z,Z,Z,Z,Z,Z,Z,Z,Z,Z,Z,Z,Z,Z,Z,Z,Z,Z,Z,Z,Z,Z,Z,Z,Z,Z,Z,Z,Z,Z,Z,Z,Z,Z,Z,Z,Z] ?_
       refine tq2_ 15 85 #[Y,Y,Y,Y,Y,Y,Y,Y,Y,Y,Y,Y,Y,Y,Y,Y,Y,Y,Y,Z,Z,Z,Z,Z,Z,Z,Z,Z,Z,Z,Z,Z,Z,Z,Z,Z,Z,Z,Z,Z,Z,Z,Z,Z,Z,Z,Z,Z,Z,Z,Z,Z,Z,Z,Z,Z,Z,Z,Z,Z,Z,Z,Z,Z,Z,Z,Z,Z,Z,Z,Z,Z,Z,Z,Z,Z,Z,Z,Z,Z,Z,Z,Z,Z,Z,Z] hHeld ?_
       refine tq2_ 19 89 #[Y,Y,Y,Y,Y,Y,Y,Y,Y,Y,Y,Y,Y,Y,Y,Y,Y,Y,Y,Y,Z,Z,Z,Z,Z,Z,Z,Z,Z,Z,Z,Z,Z,Z,Z,Z,Z,Z,Z,Z,Z,Z,Z,Z,Z,Z,Z,Z,Z,Z,Z,Z,Z,Z,Z,Z,Z,Z,Z,Z,Z,Z,Z,Z,Z,Z,Z,Z,Z,Z,Z,Z,Z,Z,Z,Z,Z,Z,Z,Z,Z,Z,Z,Z,Z,Z] hHeld ?_
       refine pq_ 20 90 #[Y,Y,Y,Y,Y,Y,Y,Y,Y,Y,Y,Y,Y,Y,Y,Y,Y,Y,Y,Y,Y,Z,Z,Z,Z,Z,Z,Z,Z,Z,Z,Z,Z,Z,Z,Z,Z,Z,Z,Z,Z,Z,Z,Z,Z,Z,Z,Z,Z,Z,Z,Z,Z,Z,Z,Z,Z,Z,Z,Z,Z,Z,Z,Z,Z,Z,Z,Z,Z,Z,Z,Z,Z,Z,Z,Z,Z,Z,Z,Z,Z,Z,Z,Z,Z,Z] ?_
       refine one_ (i := 21) (N := some 91) #[Y,Y,Y,Y,Y,Y,Y,Y,Y,Y,Y,Y,Y,Y,Y,Y,Y,Y,Y,Y,Y,Y,Z,Z,Z,Z,Z,Z,Z,Z,Z,Z,Z,Z,Z,Z,Z,Z,Z,Z,Z,Z,Z,Z,Z,Z,Z,Z,Z,Z,Z,Z,Z,Z,Z,Z,Z,Z,Z,Z,Z,Z,Z,Z,Z,Z,Z,Z,Z,Z,Z,Z,Z,Z,Z,Z,Z,Z,Z,Z,Z,Z,Z,Z,Z,Z] rfl rfl (one_of HT_.out (by kernel_rfl)) (by decide) (fun K hK => ?_)
       refine goes_ Try.func9 (by kernel_rfl) rfl #[.agg #[.int .i64 (rd y550 x4_2), .int .i64 0, .int .i64 (rd y534 x5_3), .int .i64 0, .int .i64 0]] (by rfl) rfl rfl mp_ ?_
       with_reducible refine (lockgatelaw02_InsnChecks.calls k3 (rd y550 x4_2) 0 (rd y534 x5_3) 0 0 true _ (.mk rfl) A41.out).mono ?_
       rintro e w54 ⟨rfl, hb⟩
       have HS0_ := (hb.cell (World.block_lt_of_cell? _ _ (hHeld.1))).trans (hHeld.1)
       have HS1_ := (hb.cell (World.block_lt_of_cell? _ _ (hHeld.2.1))).trans (hHeld.2.1)
       have HS2_ := (hb.cell (World.block_lt_of_cell? _ _ (hHeld.2.2.1))).trans (hHeld.2.2.1)
       have HS3_ := (hb.cell (World.block_lt_of_cell? _ _ (hHeld.2.2.2.1))).trans (hHeld.2.2.2.1)
       have HS4_ := (hb.cell (World.block_lt_of_cell? _ _ (hHeld.2.2.2.2.1))).trans (hHeld.2.2.2.2.1)
       have HS5_ := (hb.cell (World.block_lt_of_cell? _ _ (hHeld.2.2.2.2.2.1))).trans (hHeld.2.2.2.2.2.1)
       have HS6_ := (hb.cell (World.block_lt_of_cell? _ _ (hHeld.2.2.2.2.2.2.1))).trans (hHeld.2.2.2.2.2.2.1)
       have HS7_ := (hb.cell (World.block_lt_of_cell? _ _ (hHeld.2.2.2.2.2.2.2.1))).trans (hHeld.2.2.2.2.2.2.2.1)
       have HS8_ := (hb.cell (World.block_lt_of_cell? _ _ (hHeld.2.2.2.2.2.2.2.2.1))).trans (hHeld.2.2.2.2.2.2.2.2.1)
       have HS9_ := (hb.cell (World.block_lt_of_cell? _ _ (hHeld.2.2.2.2.2.2.2.2.2.1))).trans (hHeld.2.2.2.2.2.2.2.2.2.1)
       have HS10_ := (hb.cell (World.block_lt_of_cell? _ _ (hHeld.2.2.2.2.2.2.2.2.2.2.1))).trans (hHeld.2.2.2.2.2.2.2.2.2.2.1)
       have HS11_ := (hb.cell (World.block_lt_of_cell? _ _ (hHeld.2.2.2.2.2.2.2.2.2.2.2.1))).trans (hHeld.2.2.2.2.2.2.2.2.2.2.2.1)
       have HS12_ := (hb.cell (World.block_lt_of_cell? _ _ (hHeld.2.2.2.2.2.2.2.2.2.2.2.2.1))).trans (hHeld.2.2.2.2.2.2.2.2.2.2.2.2.1)
       have HS13_ := (hb.cell (World.block_lt_of_cell? _ _ (hHeld.2.2.2.2.2.2.2.2.2.2.2.2.2))).trans (hHeld.2.2.2.2.2.2.2.2.2.2.2.2.2)
       refine ⟨_, rfl, ?_⟩
       replace HO_1 := Aside0.mk (Kd.R_below (ra_ HO_1.out) hb)
       replace HO_3 := Aside0.mk (Kd.R_below (ra_ HO_3.out) hb)
       replace HB := bl_ hb
       try clear hb
       refine hK.out _ _ ⟨HS0_, HS1_, HS2_, HS3_, HS4_, HS5_, HS6_, HS7_, HS8_, HS9_, HS10_, HS11_, HS12_, HS13_⟩ (fun hHeld => ?_)
       clear hK K
       refine norm_ (a' := ?_) ?_ ?_
       rotate_left
       ·show Act.put _ (some 91) _ = _
        simp only [Act.put, s1_, s2_, s3_, i64_w, i32_w]
        rfl
       refine pq_ 22 92 #[Y,Y,Y,Y,Y,Y,Y,Y,Y,Y,Y,Y,Y,Y,Y,Y,Y,Y,Y,Y,Y,Y,Y,Z,Z,Z,Z,Z,Z,Z,Z,Z,Z,Z,Z,Z,Z,Z,Z,Z,Z,Z,Z,Z,Z,Z,Z,Z,Z,Z,Z,Z,Z,Z,Z,Z,Z,Z,Z,Z,Z,Z,Z,Z,Z,Z,Z,Z,Z,Z,Z,Z,Z,Z,Z,Z,Z,Z,Z,Z,Z,Z,Z,Z,Z,Z] ?_
       refine pq_ 23 93 #[Y,Y,Y,Y,Y,Y,Y,Y,Y,Y,Y,Y,Y,Y,Y,Y,Y,Y,Y,Y,Y,Y,Y,Y,Z,Z,Z,Z,Z,Z,Z,Z,Z,Z,Z,Z,Z,Z,Z,Z,Z,Z,Z,Z,Z,Z,Z,Z,Z,Z,Z,Z,Z,Z,Z,Z,Z,Z,Z,Z,Z,Z,Z,Z,Z,Z,Z,Z,Z,Z,Z,Z,Z,Z,Z,Z,Z,Z,Z,Z,Z,Z,Z,Z,Z,Z] ?_
       refine pq_ 24 94 #[Y,Y,Y,Y,Y,Y,Y,Y,Y,Y,Y,Y,Y,Y,Y,Y,Y,Y,Y,Y,Y,Y,Y,Y,Y,Z,Z,Z,Z,Z,Z,Z,Z,Z,Z,Z,Z,Z,Z,Z,Z,Z,Z,Z,Z,Z,Z,Z,Z,Z,Z,Z,Z,Z,Z,Z,Z,Z,Z,Z,Z,Z,Z,Z,Z,Z,Z,Z,Z,Z,Z,Z,Z,Z,Z,Z,Z,Z,Z,Z,Z,Z,Z,Z,Z,Z] ?_
       refine pq_ 25 95 #[Y,Y,Y,Y,Y,Y,Y,Y,Y,Y,Y,Y,Y,Y,Y,Y,Y,Y,Y,Y,Y,Y,Y,Y,Y,Y,Z,Z,Z,Z,Z,Z,Z,Z,Z,Z,Z,Z,Z,Z,Z,Z,Z,Z,Z,Z,Z,Z,Z,Z,Z,Z,Z,Z,Z,Z,Z,Z,Z,Z,Z,Z,Z,Z,Z,Z,Z,Z,Z,Z,Z,Z,Z,Z,Z,Z,Z,Z,Z,Z,Z,Z,Z,Z,Z,Z] ?_
       refine pq_ 26 96 #[Y,Y,Y,Y,Y,Y,Y,Y,Y,Y,Y,Y,Y,Y,Y,Y,Y,Y,Y,Y,Y,Y,Y,Y,Y,Y,Y,Z,Z,Z,Z,Z,Z,Z,Z,Z,Z,Z,Z,Z,Z,Z,Z,Z,Z,Z,Z,Z,Z,Z,Z,Z,Z,Z,Z,Z,Z,Z,Z,Z,Z,Z,Z,Z,Z,Z,Z,Z,Z,Z,Z,Z,Z,Z,Z,Z,Z,Z,Z,Z,Z,Z,Z,Z,Z,Z] ?_
       refine pq_ 27 97 #[Y,Y,Y,Y,Y,Y,Y,Y,Y,Y,Y,Y,Y,Y,Y,Y,Y,Y,Y,Y,Y,Y,Y,Y,Y,Y,Y,Y,Z,Z,Z,Z,Z,Z,Z,Z,Z,Z,Z,Z,Z,Z,Z,Z,Z,Z,Z,Z,Z,Z,Z,Z,Z,Z,Z,Z,Z,Z,Z,Z,Z,Z,Z,Z,Z,Z,Z,Z,Z,Z,Z,Z,Z,Z,Z,Z,Z,Z,Z,Z,Z,Z,Z,Z,Z,Z] ?_
       refine pq_ 29 99 #[Y,Y,Y,Y,Y,Y,Y,Y,Y,Y,Y,Y,Y,Y,Y,Y,Y,Y,Y,Y,Y,Y,Y,Y,Y,Y,Y,Y,Z,Y,Z,Z,Z,Z,Z,Z,Z,Z,Z,Z,Z,Z,Z,Z,Z,Z,Z,Z,Z,Z,Z,Z,Z,Z,Z,Z,Z,Z,Z,Z,Z,Z,Z,Z,Z,Z,Z,Z,Z,Z,Z,Z,Z,Z,Z,Z,Z,Z,Z,Z,Z,Z,Z,Z,Z,Z] ?_
       refine pq_ 30 100 #[Y,Y,Y,Y,Y,Y,Y,Y,Y,Y,Y,Y,Y,Y,Y,Y,Y,Y,Y,Y,Y,Y,Y,Y,Y,Y,Y,Y,Z,Y,Y,Z,Z,Z,Z,Z,Z,Z,Z,Z,Z,Z,Z,Z,Z,Z,Z,Z,Z,Z,Z,Z,Z,Z,Z,Z,Z,Z,Z,Z,Z,Z,Z,Z,Z,Z,Z,Z,Z,Z,Z,Z,Z,Z,Z,Z,Z,Z,Z,Z,Z,Z,Z,Z,Z,Z] ?_
       refine pq_ 31 101 #[Y,Y,Y,Y,Y,Y,Y,Y,Y,Y,Y,Y,Y,Y,Y,Y,Y,Y,Y,Y,Y,Y,Y,Y,Y,Y,Y,Y,Z,Y,Y,Y,Z,Z,Z,Z,Z,Z,Z,Z,Z,Z,Z,Z,Z,Z,Z,Z,Z,Z,Z,Z,Z,Z,Z,Z,Z,Z,Z,Z,Z,Z,Z,Z,Z,Z,Z,Z,Z,Z,Z,Z,Z,Z,Z,Z,Z,Z,Z,Z,Z,Z,Z,Z,Z,Z] ?_
       refine tq2_ 28 98 #[Y,Y,Y,Y,Y,Y,Y,Y,Y,Y,Y,Y,Y,Y,Y,Y,Y,Y,Y,Y,Y,Y,Y,Y,Y,Y,Y,Y,Y,Y,Y,Y,Z,Z,Z,Z,Z,Z,Z,Z,Z,Z,Z,Z,Z,Z,Z,Z,Z,Z,Z,Z,Z,Z,Z,Z,Z,Z,Z,Z,Z,Z,Z,Z,Z,Z,Z,Z,Z,Z,Z,Z,Z,Z,Z,Z,Z,Z,Z,Z,Z,Z,Z,Z,Z,Z] hHeld ?_
       refine tq2_ 32 102 #[Y,Y,Y,Y,Y,Y,Y,Y,Y,Y,Y,Y,Y,Y,Y,Y,Y,Y,Y,Y,Y,Y,Y,Y,Y,Y,Y,Y,Y,Y,Y,Y,Y,Z,Z,Z,Z,Z,Z,Z,Z,Z,Z,Z,Z,Z,Z,Z,Z,Z,Z,Z,Z,Z,Z,Z,Z,Z,Z,Z,Z,Z,Z,Z,Z,Z,Z,Z,Z,Z,Z,Z,Z,Z,Z,Z,Z,Z,Z,Z,Z,Z,Z,Z,Z,Z] hHeld ?_
       refine pq_ 33 103 #[Y,Y,Y,Y,Y,Y,Y,Y,Y,Y,Y,Y,Y,Y,Y,Y,Y,Y,Y,Y,Y,Y,Y,Y,Y,Y,Y,Y,Y,Y,Y,Y,Y,Y,Z,Z,Z,Z,Z,Z,Z,Z,Z,Z,Z,Z,Z,Z,Z,Z,Z,Z,Z,Z,Z,Z,Z,Z,Z,Z,Z,Z,Z,Z,Z,Z,Z,Z,Z,Z,Z,Z,Z,Z,Z,Z,Z,Z,Z,Z,Z,Z,Z,Z,Z,Z] ?_
       refine one_ (i := 34) (N := some 104) #[Y,Y,Y,Y,Y,Y,Y,Y,Y,Y,Y,Y,Y,Y,Y,Y,Y,Y,Y,Y,Y,Y,Y,Y,Y,Y,Y,Y,Y,Y,Y,Y,Y,Y,Y,Z,Z,Z,Z,Z,Z,Z,Z,Z,Z,Z,Z,Z,Z,Z,Z,Z,Z,Z,Z,Z,Z,Z,Z,Z,Z,Z,Z,Z,Z,Z,Z,Z,Z,Z,Z,Z,Z,Z,Z,Z,Z,Z,Z,Z,Z,Z,Z,Z,Z,Z] rfl rfl (one_of HT_.out (by kernel_rfl)) (by decide) (fun K hK => ?_)
       refine goes_ Try.func9 (by kernel_rfl) rfl #[.agg #[.int .i64 (rd y550 x4_2), .int .i64 0, .int .i64 0, .int .i64 (rd y534 x5_3), .int .i64 0]] (by rfl) rfl rfl mp_ ?_
       with_reducible refine (lockgatelaw02_InsnChecks.calls k3 (rd y550 x4_2) 0 0 (rd y534 x5_3) 0 true _ (.mk rfl) A43.out).mono ?_
       rintro e w55 ⟨rfl, hb⟩
       have HS0_ := (hb.cell (World.block_lt_of_cell? _ _ (hHeld.1))).trans (hHeld.1)
       have HS1_ := (hb.cell (World.block_lt_of_cell? _ _ (hHeld.2.1))).trans (hHeld.2.1)
       have HS2_ := (hb.cell (World.block_lt_of_cell? _ _ (hHeld.2.2.1))).trans (hHeld.2.2.1)
       have HS3_ := (hb.cell (World.block_lt_of_cell? _ _ (hHeld.2.2.2.1))).trans (hHeld.2.2.2.1)
       have HS4_ := (hb.cell (World.block_lt_of_cell? _ _ (hHeld.2.2.2.2.1))).trans (hHeld.2.2.2.2.1)
       have HS5_ := (hb.cell (World.block_lt_of_cell? _ _ (hHeld.2.2.2.2.2.1))).trans (hHeld.2.2.2.2.2.1)
       have HS6_ := (hb.cell (World.block_lt_of_cell? _ _ (hHeld.2.2.2.2.2.2.1))).trans (hHeld.2.2.2.2.2.2.1)
       have HS7_ := (hb.cell (World.block_lt_of_cell? _ _ (hHeld.2.2.2.2.2.2.2.1))).trans (hHeld.2.2.2.2.2.2.2.1)
       have HS8_ := (hb.cell (World.block_lt_of_cell? _ _ (hHeld.2.2.2.2.2.2.2.2.1))).trans (hHeld.2.2.2.2.2.2.2.2.1)
       have HS9_ := (hb.cell (World.block_lt_of_cell? _ _ (hHeld.2.2.2.2.2.2.2.2.2.1))).trans (hHeld.2.2.2.2.2.2.2.2.2.1)
       have HS10_ := (hb.cell (World.block_lt_of_cell? _ _ (hHeld.2.2.2.2.2.2.2.2.2.2.1))).trans (hHeld.2.2.2.2.2.2.2.2.2.2.1)
       have HS11_ := (hb.cell (World.block_lt_of_cell? _ _ (hHeld.2.2.2.2.2.2.2.2.2.2.2.1))).trans (hHeld.2.2.2.2.2.2.2.2.2.2.2.1)
       have HS12_ := (hb.cell (World.block_lt_of_cell? _ _ (hHeld.2.2.2.2.2.2.2.2.2.2.2.2.1))).trans (hHeld.2.2.2.2.2.2.2.2.2.2.2.2.1)
       have HS13_ := (hb.cell (World.block_lt_of_cell? _ _ (hHeld.2.2.2.2.2.2.2.2.2.2.2.2.2))).trans (hHeld.2.2.2.2.2.2.2.2.2.2.2.2.2)
       refine ⟨_, rfl, ?_⟩
       replace HO_1 := Aside0.mk (Kd.R_below (ra_ HO_1.out) hb)
       replace HO_3 := Aside0.mk (Kd.R_below (ra_ HO_3.out) hb)
       replace HB := bl_ hb
       try clear hb
       refine hK.out _ _ ⟨HS0_, HS1_, HS2_, HS3_, HS4_, HS5_, HS6_, HS7_, HS8_, HS9_, HS10_, HS11_, HS12_, HS13_⟩ (fun hHeld => ?_)
       clear hK K
       refine norm_ (a' := ?_) ?_ ?_
       rotate_left
       ·show Act.put _ (some 104) _ = _
        simp only [Act.put, s1_, s2_, s3_, i64_w, i32_w]
        rfl
       refine pq_ 35 105 #[Y,Y,Y,Y,Y,Y,Y,Y,Y,Y,Y,Y,Y,Y,Y,Y,Y,Y,Y,Y,Y,Y,Y,Y,Y,Y,Y,Y,Y,Y,Y,Y,Y,Y,Y,Y,Z,Z,Z,Z,Z,Z,Z,Z,Z,Z,Z,Z,Z,Z,Z,Z,Z,Z,Z,Z,Z,Z,Z,Z,Z,Z,Z,Z,Z,Z,Z,Z,Z,Z,Z,Z,Z,Z,Z,Z,Z,Z,Z,Z,Z,Z,Z,Z,Z,Z] ?_
       refine pq_ 36 106 #[Y,Y,Y,Y,Y,Y,Y,Y,Y,Y,Y,Y,Y,Y,Y,Y,Y,Y,Y,Y,Y,Y,Y,Y,Y,Y,Y,Y,Y,Y,Y,Y,Y,Y,Y,Y,Y,Z,Z,Z,Z,Z,Z,Z,Z,Z,Z,Z,Z,Z,Z,Z,Z,Z,Z,Z,Z,Z,Z,Z,Z,Z,Z,Z,Z,Z,Z,Z,Z,Z,Z,Z,Z,Z,Z,Z,Z,Z,Z,Z,Z,Z,Z,Z,Z,Z] ?_
       refine pq_ 37 107 #[Y,Y,Y,Y,Y,Y,Y,Y,Y,Y,Y,Y,Y,Y,Y,Y,Y,Y,Y,Y,Y,Y,Y,Y,Y,Y,Y,Y,Y,Y,Y,Y,Y,Y,Y,Y,Y,Y,Z,Z,Z,Z,Z,Z,Z,Z,Z,Z,Z,Z,Z,Z,Z,Z,Z,Z,Z,Z,Z,Z,Z,Z,Z,Z,Z,Z,Z,Z,Z,Z,Z,Z,Z,Z,Z,Z,Z,Z,Z,Z,Z,Z,Z,Z,Z,Z] ?_
       refine pq_ 38 108 #[Y,Y,Y,Y,Y,Y,Y,Y,Y,Y,Y,Y,Y,Y,Y,Y,Y,Y,Y,Y,Y,Y,Y,Y,Y,Y,Y,Y,Y,Y,Y,Y,Y,Y,Y,Y,Y,Y,Y,Z,Z,Z,Z,Z,Z,Z,Z,Z,Z,Z,Z,Z,Z,Z,Z,Z,Z,Z,Z,Z,Z,Z,Z,Z,Z,Z,Z,Z,Z,Z,Z,Z,Z,Z,Z,Z,Z,Z,Z,Z,Z,Z,Z,Z,Z,Z] ?_
       refine pq_ 39 109 #[Y,Y,Y,Y,Y,Y,Y,Y,Y,Y,Y,Y,Y,Y,Y,Y,Y,Y,Y,Y,Y,Y,Y,Y,Y,Y,Y,Y,Y,Y,Y,Y,Y,Y,Y,Y,Y,Y,Y,Y,Z,Z,Z,Z,Z,Z,Z,Z,Z,Z,Z,Z,Z,Z,Z,Z,Z,Z,Z,Z,Z,Z,Z,Z,Z,Z,Z,Z,Z,Z,Z,Z,Z,Z,Z,Z,Z,Z,Z,Z,Z,Z,Z,Z,Z,Z] ?_
       refine pq_ 40 110 #[Y,Y,Y,Y,Y,Y,Y,Y,Y,Y,Y,Y,Y,Y,Y,Y,Y,Y,Y,Y,Y,Y,Y,Y,Y,Y,Y,Y,Y,Y,Y,Y,Y,Y,Y,Y,Y,Y,Y,Y,Y,Z,Z,Z,Z,Z,Z,Z,Z,Z,Z,Z,Z,Z,Z,Z,Z,Z,Z,Z,Z,Z,Z,Z,Z,Z,Z,Z,Z,Z,Z,Z,Z,Z,Z,Z,Z,Z,Z,Z,Z,Z,Z,Z,Z,Z] ?_
       refine pq_ 42 112 #[Y,Y,Y,Y,Y,Y,Y,Y,Y,Y,Y,Y,Y,Y,Y,Y,Y,Y,Y,Y,Y,Y,Y,Y,Y,Y,Y,Y,Y,Y,Y,Y,Y,Y,Y,Y,Y,Y,Y,Y,Y,Z,Y,Z,Z,Z,Z,Z,Z,Z,Z,Z,Z,Z,Z,Z,Z,Z,Z,Z,Z,Z,Z,Z,Z,Z,Z,Z,Z,Z,Z,Z,Z,Z,Z,Z,Z,Z,Z,Z,Z,Z,Z,Z,Z,Z] ?_
       refine pq_ 43 113 #[Y,Y,Y,Y,Y,Y,Y,Y,Y,Y,Y,Y,Y,Y,Y,Y,Y,Y,Y,Y,Y,Y,Y,Y,Y,Y,Y,Y,Y,Y,Y,Y,Y,Y,Y,Y,Y,Y,Y,Y,Y,Z,Y,Y,Z,Z,Z,Z,Z,Z,Z,Z,Z,Z,Z,Z,Z,Z,Z,Z,Z,Z,Z,Z,Z,Z,Z,Z,Z,Z,Z,Z,Z,Z,Z,Z,Z,Z,Z,Z,Z,Z,Z,Z,Z,Z] ?_
       refine pq_ 44 114 #[Y,Y,Y,Y,Y,Y,Y,Y,Y,Y,Y,Y,Y,Y,Y,Y,Y,Y,Y,Y,Y,Y,Y,Y,Y,Y,Y,Y,Y,Y,Y,Y,Y,Y,Y,Y,Y,Y,Y,Y,Y,Z,Y,Y,Y,Z,Z,Z,Z,Z,Z,Z,Z,Z,Z,Z,Z,Z,Z,Z,Z,Z,Z,Z,Z,Z,Z,Z,Z,Z,Z,Z,Z,Z,Z,Z,Z,Z,Z,Z,Z,Z,Z,Z,Z,Z] ?_
       refine tq2_ 41 111 #[Y,Y,Y,Y,Y,Y,Y,Y,Y,Y,Y,Y,Y,Y,Y,Y,Y,Y,Y,Y,Y,Y,Y,Y,Y,Y,Y,Y,Y,Y,Y,Y,Y,Y,Y,Y,Y,Y,Y,Y,Y,Y,Y,Y,Y,Z,Z,Z,Z,Z,Z,Z,Z,Z,Z,Z,Z,Z,Z,Z,Z,Z,Z,Z,Z,Z,Z,Z,Z,Z,Z,Z,Z,Z,Z,Z,Z,Z,Z,Z,Z,Z,Z,Z,Z,Z] hHeld ?_
       refine tq2_ 45 115 #[Y,Y,Y,Y,Y,Y,Y,Y,Y,Y,Y,Y,Y,Y,Y,Y,Y,Y,Y,Y,Y,Y,Y,Y,Y,Y,Y,Y,Y,Y,Y,Y,Y,Y,Y,Y,Y,Y,Y,Y,Y,Y,Y,Y,Y,Y,Z,Z,Z,Z,Z,Z,Z,Z,Z,Z,Z,Z,Z,Z,Z,Z,Z,Z,Z,Z,Z,Z,Z,Z,Z,Z,Z,Z,Z,Z,Z,Z,Z,Z,Z,Z,Z,Z,Z,Z] hHeld ?_
       refine pq_ 46 116 #[Y,Y,Y,Y,Y,Y,Y,Y,Y,Y,Y,Y,Y,Y,Y,Y,Y,Y,Y,Y,Y,Y,Y,Y,Y,Y,Y,Y,Y,Y,Y,Y,Y,Y,Y,Y,Y,Y,Y,Y,Y,Y,Y,Y,Y,Y,Y,Z,Z,Z,Z,Z,Z,Z,Z,Z,Z,Z,Z,Z,Z,Z,Z,Z,Z,Z,Z,Z,Z,Z,Z,Z,Z,Z,Z,Z,Z,Z,Z,Z,Z,Z,Z,Z,Z,Z] ?_
       refine one_ (i := 47) (N := some 117) #[Y,Y,Y,Y,Y,Y,Y,Y,Y,Y,Y,Y,Y,Y,Y,Y,Y,Y,Y,Y,Y,Y,Y,Y,Y,Y,Y,Y,Y,Y,Y,Y,Y,Y,Y,Y,Y,Y,Y,Y,Y,Y,Y,Y,Y,Y,Y,Y,Z,Z,Z,Z,Z,Z,Z,Z,Z,Z,Z,Z,Z,Z,Z,Z,Z,Z,Z,Z,Z,Z,Z,Z,Z,Z,Z,Z,Z,Z,Z,Z,Z,Z,Z,Z,Z,Z] rfl rfl (one_of HT_.out (by kernel_rfl)) (by decide) (fun K hK => ?_)
       refine goes_ Try.func9 (by kernel_rfl) rfl #[.agg #[.int .i64 (rd y550 x4_2), .int .i64 0, .int .i64 0, .int .i64 0, .int .i64 (rd y534 x5_3)]] (by rfl) rfl rfl mp_ ?_
       with_reducible refine (lockgatelaw02_InsnChecks.calls k3 (rd y550 x4_2) 0 0 0 (rd y534 x5_3) true _ (.mk rfl) A45.out).mono ?_
       rintro e w56 ⟨rfl, hb⟩
       have HS0_ := (hb.cell (World.block_lt_of_cell? _ _ (hHeld.1))).trans (hHeld.1)
       have HS1_ := (hb.cell (World.block_lt_of_cell? _ _ (hHeld.2.1))).trans (hHeld.2.1)
       have HS2_ := (hb.cell (World.block_lt_of_cell? _ _ (hHeld.2.2.1))).trans (hHeld.2.2.1)
       have HS3_ := (hb.cell (World.block_lt_of_cell? _ _ (hHeld.2.2.2.1))).trans (hHeld.2.2.2.1)
       have HS4_ := (hb.cell (World.block_lt_of_cell? _ _ (hHeld.2.2.2.2.1))).trans (hHeld.2.2.2.2.1)
       have HS5_ := (hb.cell (World.block_lt_of_cell? _ _ (hHeld.2.2.2.2.2.1))).trans (hHeld.2.2.2.2.2.1)
       have HS6_ := (hb.cell (World.block_lt_of_cell? _ _ (hHeld.2.2.2.2.2.2.1))).trans (hHeld.2.2.2.2.2.2.1)
       have HS7_ := (hb.cell (World.block_lt_of_cell? _ _ (hHeld.2.2.2.2.2.2.2.1))).trans (hHeld.2.2.2.2.2.2.2.1)
       have HS8_ := (hb.cell (World.block_lt_of_cell? _ _ (hHeld.2.2.2.2.2.2.2.2.1))).trans (hHeld.2.2.2.2.2.2.2.2.1)
       have HS9_ := (hb.cell (World.block_lt_of_cell? _ _ (hHeld.2.2.2.2.2.2.2.2.2.1))).trans (hHeld.2.2.2.2.2.2.2.2.2.1)
       have HS10_ := (hb.cell (World.block_lt_of_cell? _ _ (hHeld.2.2.2.2.2.2.2.2.2.2.1))).trans (hHeld.2.2.2.2.2.2.2.2.2.2.1)
       have HS11_ := (hb.cell (World.block_lt_of_cell? _ _ (hHeld.2.2.2.2.2.2.2.2.2.2.2.1))).trans (hHeld.2.2.2.2.2.2.2.2.2.2.2.1)
       have HS12_ := (hb.cell (World.block_lt_of_cell? _ _ (hHeld.2.2.2.2.2.2.2.2.2.2.2.2.1))).trans (hHeld.2.2.2.2.2.2.2.2.2.2.2.2.1)
       have HS13_ := (hb.cell (World.block_lt_of_cell? _ _ (hHeld.2.2.2.2.2.2.2.2.2.2.2.2.2))).trans (hHeld.2.2.2.2.2.2.2.2.2.2.2.2.2)
       refine ⟨_, rfl, ?_⟩
       replace HO_1 := Aside0.mk (Kd.R_below (ra_ HO_1.out) hb)
       replace HO_3 := Aside0.mk (Kd.R_below (ra_ HO_3.out) hb)
       replace HB := bl_ hb
       try clear hb
       refine hK.out _ _ ⟨HS0_, HS1_, HS2_, HS3_, HS4_, HS5_, HS6_, HS7_, HS8_, HS9_, HS10_, HS11_, HS12_, HS13_⟩ (fun hHeld => ?_)
       clear hK K
       refine norm_ (a' := ?_) ?_ ?_
       rotate_left
       ·show Act.put _ (some 117) _ = _
        simp only [Act.put, s1_, s2_, s3_, i64_w, i32_w]
        rfl
       refine pq_ 48 118 #[Y,Y,Y,Y,Y,Y,Y,Y,Y,Y,Y,Y,Y,Y,Y,Y,Y,Y,Y,Y,Y,Y,Y,Y,Y,Y,Y,Y,Y,Y,Y,Y,Y,Y,Y,Y,Y,Y,Y,Y,Y,Y,Y,Y,Y,Y,Y,Y,Y,Z,Z,Z,Z,Z,Z,Z,Z,Z,Z,Z,Z,Z,Z,Z,Z,Z,Z,Z,Z,Z,Z,Z,Z,Z,Z,Z,Z,Z,Z,Z,Z,Z,Z,Z,Z,Z] ?_
       refine pq_ 49 119 #[Y,Y,Y,Y,Y,Y,Y,Y,Y,Y,Y,Y,Y,Y,Y,Y,Y,Y,Y,Y,Y,Y,Y,Y,Y,Y,Y,Y,Y,Y,Y,Y,Y,Y,Y,Y,Y,Y,Y,Y,Y,Y,Y,Y,Y,Y,Y,Y,Y,Y,Z,Z,Z,Z,Z,Z,Z,Z,Z,Z,Z,Z,Z,Z,Z,Z,Z,Z,Z,Z,Z,Z,Z,Z,Z,Z,Z,Z,Z,Z,Z,Z,Z,Z,Z,Z] ?_
       refine pq_ 50 120 #[Y,Y,Y,Y,Y,Y,Y,Y,Y,Y,Y,Y,Y,Y,Y,Y,Y,Y,Y,Y,Y,Y,Y,Y,Y,Y,Y,Y,Y,Y,Y,Y,Y,Y,Y,Y,Y,Y,Y,Y,Y,Y,Y,Y,Y,Y,Y,Y,Y,Y,Y,Z,Z,Z,Z,Z,Z,Z,Z,Z,Z,Z,Z,Z,Z,Z,Z,Z,Z,Z,Z,Z,Z,Z,Z,Z,Z,Z,Z,Z,Z,Z,Z,Z,Z,Z] ?_
       refine pq_ 51 121 #[Y,Y,Y,Y,Y,Y,Y,Y,Y,Y,Y,Y,Y,Y,Y,Y,Y,Y,Y,Y,Y,Y,Y,Y,Y,Y,Y,Y,Y,Y,Y,Y,Y,Y,Y,Y,Y,Y,Y,Y,Y,Y,Y,Y,Y,Y,Y,Y,Y,Y,Y,Y,Z,Z,Z,Z,Z,Z,Z,Z,Z,Z,Z,Z,Z,Z,Z,Z,Z,Z,Z,Z,Z,Z,Z,Z,Z,Z,Z,Z,Z,Z,Z,Z,Z,Z] ?_
       refine pq_ 52 122 #[Y,Y,Y,Y,Y,Y,Y,Y,Y,Y,Y,Y,Y,Y,Y,Y,Y,Y,Y,Y,Y,Y,Y,Y,Y,Y,Y,Y,Y,Y,Y,Y,Y,Y,Y,Y,Y,Y,Y,Y,Y,Y,Y,Y,Y,Y,Y,Y,Y,Y,Y,Y,Y,Z,Z,Z,Z,Z,Z,Z,Z,Z,Z,Z,Z,Z,Z,Z,Z,Z,Z,Z,Z,Z,Z,Z,Z,Z,Z,Z,Z,Z,Z,Z,Z,Z] ?_
       refine pq_ 53 123 #[Y,Y,Y,Y,Y,Y,Y,Y,Y,Y,Y,Y,Y,Y,Y,Y,Y,Y,Y,Y,Y,Y,Y,Y,Y,Y,Y,Y,Y,Y,Y,Y,Y,Y,Y,Y,Y,Y,Y,Y,Y,Y,Y,Y,Y,Y,Y,Y,Y,Y,Y,Y,Y,Y,Z,Z,Z,Z,Z,Z,Z,Z,Z,Z,Z,Z,Z,Z,Z,Z,Z,Z,Z,Z,Z,Z,Z,Z,Z,Z,Z,Z,Z,Z,Z,Z] ?_
       refine pq_ 55 125 #[Y,Y,Y,Y,Y,Y,Y,Y,Y,Y,Y,Y,Y,Y,Y,Y,Y,Y,Y,Y,Y,Y,Y,Y,Y,Y,Y,Y,Y,Y,Y,Y,Y,Y,Y,Y,Y,Y,Y,Y,Y,Y,Y,Y,Y,Y,Y,Y,Y,Y,Y,Y,Y,Y,Z,Y,Z,Z,Z,Z,Z,Z,Z,Z,Z,Z,Z,Z,Z,Z,Z,Z,Z,Z,Z,Z,Z,Z,Z,Z,Z,Z,Z,Z,Z,Z] ?_
       refine pq_ 56 126 #[Y,Y,Y,Y,Y,Y,Y,Y,Y,Y,Y,Y,Y,Y,Y,Y,Y,Y,Y,Y,Y,Y,Y,Y,Y,Y,Y,Y,Y,Y,Y,Y,Y,Y,Y,Y,Y,Y,Y,Y,Y,Y,Y,Y,Y,Y,Y,Y,Y,Y,Y,Y,Y,Y,Z,Y,Y,Z,Z,Z,Z,Z,Z,Z,Z,Z,Z,Z,Z,Z,Z,Z,Z,Z,Z,Z,Z,Z,Z,Z,Z,Z,Z,Z,Z,Z] ?_
       refine pq_ 57 127 #[Y,Y,Y,Y,Y,Y,Y,Y,Y,Y,Y,Y,Y,Y,Y,Y,Y,Y,Y,Y,Y,Y,Y,Y,Y,Y,Y,Y,Y,Y,Y,Y,Y,Y,Y,Y,Y,Y,Y,Y,Y,Y,Y,Y,Y,Y,Y,Y,Y,Y,Y,Y,Y,Y,Z,Y,Y,Y,Z,Z,Z,Z,Z,Z,Z,Z,Z,Z,Z,Z,Z,Z,Z,Z,Z,Z,Z,Z,Z,Z,Z,Z,Z,Z,Z,Z] ?_
       refine tq2_ 54 124 #[Y,Y,Y,Y,Y,Y,Y,Y,Y,Y,Y,Y,Y,Y,Y,Y,Y,Y,Y,Y,Y,Y,Y,Y,Y,Y,Y,Y,Y,Y,Y,Y,Y,Y,Y,Y,Y,Y,Y,Y,Y,Y,Y,Y,Y,Y,Y,Y,Y,Y,Y,Y,Y,Y,Y,Y,Y,Y,Z,Z,Z,Z,Z,Z,Z,Z,Z,Z,Z,Z,Z,Z,Z,Z,Z,Z,Z,Z,Z,Z,Z,Z,Z,Z,Z,Z] hHeld ?_
       refine tq2_ 58 128 #[Y,Y,Y,Y,Y,Y,Y,Y,Y,Y,Y,Y,Y,Y,Y,Y,Y,Y,Y,Y,Y,Y,Y,Y,Y,Y,Y,Y,Y,Y,Y,Y,Y,Y,Y,Y,Y,Y,Y,Y,Y,Y,Y,Y,Y,Y,Y,Y,Y,Y,Y,Y,Y,Y,Y,Y,Y,Y,Y,Z,Z,Z,Z,Z,Z,Z,Z,Z,Z,Z,Z,Z,Z,Z,Z,Z,Z,Z,Z,Z,Z,Z,Z,Z,Z,Z] hHeld ?_
       refine pq_ 59 129 #[Y,Y,Y,Y,Y,Y,Y,Y,Y,Y,Y,Y,Y,Y,Y,Y,Y,Y,Y,Y,Y,Y,Y,Y,Y,Y,Y,Y,Y,Y,Y,Y,Y,Y,Y,Y,Y,Y,Y,Y,Y,Y,Y,Y,Y,Y,Y,Y,Y,Y,Y,Y,Y,Y,Y,Y,Y,Y,Y,Y,Z,Z,Z,Z,Z,Z,Z,Z,Z,Z,Z,Z,Z,Z,Z,Z,Z,Z,Z,Z,Z,Z,Z,Z,Z,Z] ?_
       refine one_ (i := 60) (N := some 130) #[Y,Y,Y,Y,Y,Y,Y,Y,Y,Y,Y,Y,Y,Y,Y,Y,Y,Y,Y,Y,Y,Y,Y,Y,Y,Y,Y,Y,Y,Y,Y,Y,Y,Y,Y,Y,Y,Y,Y,Y,Y,Y,Y,Y,Y,Y,Y,Y,Y,Y,Y,Y,Y,Y,Y,Y,Y,Y,Y,Y,Y,Z,Z,Z,Z,Z,Z,Z,Z,Z,Z,Z,Z,Z,Z,Z,Z,Z,Z,Z,Z,Z,Z,Z,Z,Z] rfl rfl (one_of HT_.out (by kernel_rfl)) (by decide) (fun K hK => ?_)
       refine goes_ Try.func9 (by kernel_rfl) rfl #[.agg #[.int .i64 (rd y550 x4_2), .int .i64 0, .int .i64 1, .int .i64 0, .int .i64 (rd y534 x5_3)]] (by rfl) rfl rfl mp_ ?_
       with_reducible refine (lockgatelaw02_InsnChecks.calls k3 (rd y550 x4_2) 0 1 0 (rd y534 x5_3) true _ (.mk rfl) A47.out).mono ?_
       rintro e w57 ⟨rfl, hb⟩
       have HS0_ := (hb.cell (World.block_lt_of_cell? _ _ (hHeld.1))).trans (hHeld.1)
       have HS1_ := (hb.cell (World.block_lt_of_cell? _ _ (hHeld.2.1))).trans (hHeld.2.1)
       have HS2_ := (hb.cell (World.block_lt_of_cell? _ _ (hHeld.2.2.1))).trans (hHeld.2.2.1)
       have HS3_ := (hb.cell (World.block_lt_of_cell? _ _ (hHeld.2.2.2.1))).trans (hHeld.2.2.2.1)
       have HS4_ := (hb.cell (World.block_lt_of_cell? _ _ (hHeld.2.2.2.2.1))).trans (hHeld.2.2.2.2.1)
       have HS5_ := (hb.cell (World.block_lt_of_cell? _ _ (hHeld.2.2.2.2.2.1))).trans (hHeld.2.2.2.2.2.1)
       have HS6_ := (hb.cell (World.block_lt_of_cell? _ _ (hHeld.2.2.2.2.2.2.1))).trans (hHeld.2.2.2.2.2.2.1)
       have HS7_ := (hb.cell (World.block_lt_of_cell? _ _ (hHeld.2.2.2.2.2.2.2.1))).trans (hHeld.2.2.2.2.2.2.2.1)
       have HS8_ := (hb.cell (World.block_lt_of_cell? _ _ (hHeld.2.2.2.2.2.2.2.2.1))).trans (hHeld.2.2.2.2.2.2.2.2.1)
       have HS9_ := (hb.cell (World.block_lt_of_cell? _ _ (hHeld.2.2.2.2.2.2.2.2.2.1))).trans (hHeld.2.2.2.2.2.2.2.2.2.1)
       have HS10_ := (hb.cell (World.block_lt_of_cell? _ _ (hHeld.2.2.2.2.2.2.2.2.2.2.1))).trans (hHeld.2.2.2.2.2.2.2.2.2.2.1)
       have HS11_ := (hb.cell (World.block_lt_of_cell? _ _ (hHeld.2.2.2.2.2.2.2.2.2.2.2.1))).trans (hHeld.2.2.2.2.2.2.2.2.2.2.2.1)
       have HS12_ := (hb.cell (World.block_lt_of_cell? _ _ (hHeld.2.2.2.2.2.2.2.2.2.2.2.2.1))).trans (hHeld.2.2.2.2.2.2.2.2.2.2.2.2.1)
       have HS13_ := (hb.cell (World.block_lt_of_cell? _ _ (hHeld.2.2.2.2.2.2.2.2.2.2.2.2.2))).trans (hHeld.2.2.2.2.2.2.2.2.2.2.2.2.2)
       refine ⟨_, rfl, ?_⟩
       replace HO_1 := Aside0.mk (Kd.R_below (ra_ HO_1.out) hb)
       replace HO_3 := Aside0.mk (Kd.R_below (ra_ HO_3.out) hb)
       replace HB := bl_ hb
       try clear hb
       refine hK.out _ _ ⟨HS0_, HS1_, HS2_, HS3_, HS4_, HS5_, HS6_, HS7_, HS8_, HS9_, HS10_, HS11_, HS12_, HS13_⟩ (fun hHeld => ?_)
       clear hK K
       refine norm_ (a' := ?_) ?_ ?_
       rotate_left
       ·show Act.put _ (some 130) _ = _
        simp only [Act.put, s1_, s2_, s3_, i64_w, i32_w]
        rfl
       refine pq_ 61 131 #[Y,Y,Y,Y,Y,Y,Y,Y,Y,Y,Y,Y,Y,Y,Y,Y,Y,Y,Y,Y,Y,Y,Y,Y,Y,Y,Y,Y,Y,Y,Y,Y,Y,Y,Y,Y,Y,Y,Y,Y,Y,Y,Y,Y,Y,Y,Y,Y,Y,Y,Y,Y,Y,Y,Y,Y,Y,Y,Y,Y,Y,Y,Z,Z,Z,Z,Z,Z,Z,Z,Z,Z,Z,Z,Z,Z,Z,Z,Z,Z,Z,Z,Z,Z,Z,Z] ?_
       refine pq_ 62 132 #[Y,Y,Y,Y,Y,Y,Y,Y,Y,Y,Y,Y,Y,Y,Y,Y,Y,Y,Y,Y,Y,Y,Y,Y,Y,Y,Y,Y,Y,Y,Y,Y,Y,Y,Y,Y,Y,Y,Y,Y,Y,Y,Y,Y,Y,Y,Y,Y,Y,Y,Y,Y,Y,Y,Y,Y,Y,Y,Y,Y,Y,Y,Y,Z,Z,Z,Z,Z,Z,Z,Z,Z,Z,Z,Z,Z,Z,Z,Z,Z,Z,Z,Z,Z,Z,Z] ?_
       refine pq_ 63 133 #[Y,Y,Y,Y,Y,Y,Y,Y,Y,Y,Y,Y,Y,Y,Y,Y,Y,Y,Y,Y,Y,Y,Y,Y,Y,Y,Y,Y,Y,Y,Y,Y,Y,Y,Y,Y,Y,Y,Y,Y,Y,Y,Y,Y,Y,Y,Y,Y,Y,Y,Y,Y,Y,Y,Y,Y,Y,Y,Y,Y,Y,Y,Y,Y,Z,Z,Z,Z,Z,Z,Z,Z,Z,Z,Z,Z,Z,Z,Z,Z,Z,Z,Z,Z,Z,Z] ?_
       refine pq_ 64 134 #[Y,Y,Y,Y,Y,Y,Y,Y,Y,Y,Y,Y,Y,Y,Y,Y,Y,Y,Y,Y,Y,Y,Y,Y,Y,Y,Y,Y,Y,Y,Y,Y,Y,Y,Y,Y,Y,Y,Y,Y,Y,Y,Y,Y,Y,Y,Y,Y,Y,Y,Y,Y,Y,Y,Y,Y,Y,Y,Y,Y,Y,Y,Y,Y,Y,Z,Z,Z,Z,Z,Z,Z,Z,Z,Z,Z,Z,Z,Z,Z,Z,Z,Z,Z,Z,Z] ?_
       refine pq_ 65 135 #[Y,Y,Y,Y,Y,Y,Y,Y,Y,Y,Y,Y,Y,Y,Y,Y,Y,Y,Y,Y,Y,Y,Y,Y,Y,Y,Y,Y,Y,Y,Y,Y,Y,Y,Y,Y,Y,Y,Y,Y,Y,Y,Y,Y,Y,Y,Y,Y,Y,Y,Y,Y,Y,Y,Y,Y,Y,Y,Y,Y,Y,Y,Y,Y,Y,Y,Z,Z,Z,Z,Z,Z,Z,Z,Z,Z,Z,Z,Z,Z,Z,Z,Z,Z,Z,Z] ?_
       refine pq_ 66 136 #[Y,Y,Y,Y,Y,Y,Y,Y,Y,Y,Y,Y,Y,Y,Y,Y,Y,Y,Y,Y,Y,Y,Y,Y,Y,Y,Y,Y,Y,Y,Y,Y,Y,Y,Y,Y,Y,Y,Y,Y,Y,Y,Y,Y,Y,Y,Y,Y,Y,Y,Y,Y,Y,Y,Y,Y,Y,Y,Y,Y,Y,Y,Y,Y,Y,Y,Y,Z,Z,Z,Z,Z,Z,Z,Z,Z,Z,Z,Z,Z,Z,Z,Z,Z,Z,Z] ?_
       refine pq_ 68 138 #[Y,Y,Y,Y,Y,Y,Y,Y,Y,Y,Y,Y,Y,Y,Y,Y,Y,Y,Y,Y,Y,Y,Y,Y,Y,Y,Y,Y,Y,Y,Y,Y,Y,Y,Y,Y,Y,Y,Y,Y,Y,Y,Y,Y,Y,Y,Y,Y,Y,Y,Y,Y,Y,Y,Y,Y,Y,Y,Y,Y,Y,Y,Y,Y,Y,Y,Y,Z,Y,Z,Z,Z,Z,Z,Z,Z,Z,Z,Z,Z,Z,Z,Z,Z,Z,Z] ?_
       refine pq_ 69 139 #[Y,Y,Y,Y,Y,Y,Y,Y,Y,Y,Y,Y,Y,Y,Y,Y,Y,Y,Y,Y,Y,Y,Y,Y,Y,Y,Y,Y,Y,Y,Y,Y,Y,Y,Y,Y,Y,Y,Y,Y,Y,Y,Y,Y,Y,Y,Y,Y,Y,Y,Y,Y,Y,Y,Y,Y,Y,Y,Y,Y,Y,Y,Y,Y,Y,Y,Y,Z,Y,Y,Z,Z,Z,Z,Z,Z,Z,Z,Z,Z,Z,Z,Z,Z,Z,Z] ?_
       refine pq_ 70 140 #[Y,Y,Y,Y,Y,Y,Y,Y,Y,Y,Y,Y,Y,Y,Y,Y,Y,Y,Y,Y,Y,Y,Y,Y,Y,Y,Y,Y,Y,Y,Y,Y,Y,Y,Y,Y,Y,Y,Y,Y,Y,Y,Y,Y,Y,Y,Y,Y,Y,Y,Y,Y,Y,Y,Y,Y,Y,Y,Y,Y,Y,Y,Y,Y,Y,Y,Y,Z,Y,Y,Y,Z,Z,Z,Z,Z,Z,Z,Z,Z,Z,Z,Z,Z,Z,Z] ?_
       refine pq_ 73 143 #[Y,Y,Y,Y,Y,Y,Y,Y,Y,Y,Y,Y,Y,Y,Y,Y,Y,Y,Y,Y,Y,Y,Y,Y,Y,Y,Y,Y,Y,Y,Y,Y,Y,Y,Y,Y,Y,Y,Y,Y,Y,Y,Y,Y,Y,Y,Y,Y,Y,Y,Y,Y,Y,Y,Y,Y,Y,Y,Y,Y,Y,Y,Y,Y,Y,Y,Y,Z,Y,Y,Y,Z,Z,Y,Z,Z,Z,Z,Z,Z,Z,Z,Z,Z,Z,Z] ?_
       refine pq_ 74 144 #[Y,Y,Y,Y,Y,Y,Y,Y,Y,Y,Y,Y,Y,Y,Y,Y,Y,Y,Y,Y,Y,Y,Y,Y,Y,Y,Y,Y,Y,Y,Y,Y,Y,Y,Y,Y,Y,Y,Y,Y,Y,Y,Y,Y,Y,Y,Y,Y,Y,Y,Y,Y,Y,Y,Y,Y,Y,Y,Y,Y,Y,Y,Y,Y,Y,Y,Y,Z,Y,Y,Y,Z,Z,Y,Y,Z,Z,Z,Z,Z,Z,Z,Z,Z,Z,Z] ?_
       refine pq_ 75 145 #[Y,Y,Y,Y,Y,Y,Y,Y,Y,Y,Y,Y,Y,Y,Y,Y,Y,Y,Y,Y,Y,Y,Y,Y,Y,Y,Y,Y,Y,Y,Y,Y,Y,Y,Y,Y,Y,Y,Y,Y,Y,Y,Y,Y,Y,Y,Y,Y,Y,Y,Y,Y,Y,Y,Y,Y,Y,Y,Y,Y,Y,Y,Y,Y,Y,Y,Y,Z,Y,Y,Y,Z,Z,Y,Y,Y,Z,Z,Z,Z,Z,Z,Z,Z,Z,Z] ?_
       refine pq_ 77 147 #[Y,Y,Y,Y,Y,Y,Y,Y,Y,Y,Y,Y,Y,Y,Y,Y,Y,Y,Y,Y,Y,Y,Y,Y,Y,Y,Y,Y,Y,Y,Y,Y,Y,Y,Y,Y,Y,Y,Y,Y,Y,Y,Y,Y,Y,Y,Y,Y,Y,Y,Y,Y,Y,Y,Y,Y,Y,Y,Y,Y,Y,Y,Y,Y,Y,Y,Y,Z,Y,Y,Y,Z,Z,Y,Y,Y,Z,Y,Z,Z,Z,Z,Z,Z,Z,Z] ?_
       refine pq_ 78 148 #[Y,Y,Y,Y,Y,Y,Y,Y,Y,Y,Y,Y,Y,Y,Y,Y,Y,Y,Y,Y,Y,Y,Y,Y,Y,Y,Y,Y,Y,Y,Y,Y,Y,Y,Y,Y,Y,Y,Y,Y,Y,Y,Y,Y,Y,Y,Y,Y,Y,Y,Y,Y,Y,Y,Y,Y,Y,Y,Y,Y,Y,Y,Y,Y,Y,Y,Y,Z,Y,Y,Y,Z,Z,Y,Y,Y,Z,Y,Y,Z,Z,Z,Z,Z,Z,Z] ?_
       refine pq_ 79 149 #[Y,Y,Y,Y,Y,Y,Y,Y,Y,Y,Y,Y,Y,Y,Y,Y,Y,Y,Y,Y,Y,Y,Y,Y,Y,Y,Y,Y,Y,Y,Y,Y,Y,Y,Y,Y,Y,Y,Y,Y,Y,Y,Y,Y,Y,Y,Y,Y,Y,Y,Y,Y,Y,Y,Y,Y,Y,Y,Y,Y,Y,Y,Y,Y,Y,Y,Y,Z,Y,Y,Y,Z,Z,Y,Y,Y,Z,Y,Y,Y,Z,Z,Z,Z,Z,Z] ?_
       refine tq2_ 67 137 #[Y,Y,Y,Y,Y,Y,Y,Y,Y,Y,Y,Y,Y,Y,Y,Y,Y,Y,Y,Y,Y,Y,Y,Y,Y,Y,Y,Y,Y,Y,Y,Y,Y,Y,Y,Y,Y,Y,Y,Y,Y,Y,Y,Y,Y,Y,Y,Y,Y,Y,Y,Y,Y,Y,Y,Y,Y,Y,Y,Y,Y,Y,Y,Y,Y,Y,Y,Y,Y,Y,Y,Z,Z,Y,Y,Y,Z,Y,Y,Y,Z,Z,Z,Z,Z,Z] hHeld ?_
       refine tq2_ 71 141 #[Y,Y,Y,Y,Y,Y,Y,Y,Y,Y,Y,Y,Y,Y,Y,Y,Y,Y,Y,Y,Y,Y,Y,Y,Y,Y,Y,Y,Y,Y,Y,Y,Y,Y,Y,Y,Y,Y,Y,Y,Y,Y,Y,Y,Y,Y,Y,Y,Y,Y,Y,Y,Y,Y,Y,Y,Y,Y,Y,Y,Y,Y,Y,Y,Y,Y,Y,Y,Y,Y,Y,Y,Z,Y,Y,Y,Z,Y,Y,Y,Z,Z,Z,Z,Z,Z] hHeld ?_
       refine pq_ 72 142 #[Y,Y,Y,Y,Y,Y,Y,Y,Y,Y,Y,Y,Y,Y,Y,Y,Y,Y,Y,Y,Y,Y,Y,Y,Y,Y,Y,Y,Y,Y,Y,Y,Y,Y,Y,Y,Y,Y,Y,Y,Y,Y,Y,Y,Y,Y,Y,Y,Y,Y,Y,Y,Y,Y,Y,Y,Y,Y,Y,Y,Y,Y,Y,Y,Y,Y,Y,Y,Y,Y,Y,Y,Y,Y,Y,Y,Z,Y,Y,Y,Z,Z,Z,Z,Z,Z] ?_
       refine tq2_ 76 146 #[Y,Y,Y,Y,Y,Y,Y,Y,Y,Y,Y,Y,Y,Y,Y,Y,Y,Y,Y,Y,Y,Y,Y,Y,Y,Y,Y,Y,Y,Y,Y,Y,Y,Y,Y,Y,Y,Y,Y,Y,Y,Y,Y,Y,Y,Y,Y,Y,Y,Y,Y,Y,Y,Y,Y,Y,Y,Y,Y,Y,Y,Y,Y,Y,Y,Y,Y,Y,Y,Y,Y,Y,Y,Y,Y,Y,Y,Y,Y,Y,Z,Z,Z,Z,Z,Z] hHeld ?_
       refine tq2_ 80 150 #[Y,Y,Y,Y,Y,Y,Y,Y,Y,Y,Y,Y,Y,Y,Y,Y,Y,Y,Y,Y,Y,Y,Y,Y,Y,Y,Y,Y,Y,Y,Y,Y,Y,Y,Y,Y,Y,Y,Y,Y,Y,Y,Y,Y,Y,Y,Y,Y,Y,Y,Y,Y,Y,Y,Y,Y,Y,Y,Y,Y,Y,Y,Y,Y,Y,Y,Y,Y,Y,Y,Y,Y,Y,Y,Y,Y,Y,Y,Y,Y,Y,Z,Z,Z,Z,Z] hHeld ?_
       refine pq_ 81 151 #[Y,Y,Y,Y,Y,Y,Y,Y,Y,Y,Y,Y,Y,Y,Y,Y,Y,Y,Y,Y,Y,Y,Y,Y,Y,Y,Y,Y,Y,Y,Y,Y,Y,Y,Y,Y,Y,Y,Y,Y,Y,Y,Y,Y,Y,Y,Y,Y,Y,Y,Y,Y,Y,Y,Y,Y,Y,Y,Y,Y,Y,Y,Y,Y,Y,Y,Y,Y,Y,Y,Y,Y,Y,Y,Y,Y,Y,Y,Y,Y,Y,Y,Z,Z,Z,Z] ?_
       refine one_ (i := 82) (N := some 152) #[Y,Y,Y,Y,Y,Y,Y,Y,Y,Y,Y,Y,Y,Y,Y,Y,Y,Y,Y,Y,Y,Y,Y,Y,Y,Y,Y,Y,Y,Y,Y,Y,Y,Y,Y,Y,Y,Y,Y,Y,Y,Y,Y,Y,Y,Y,Y,Y,Y,Y,Y,Y,Y,Y,Y,Y,Y,Y,Y,Y,Y,Y,Y,Y,Y,Y,Y,Y,Y,Y,Y,Y,Y,Y,Y,Y,Y,Y,Y,Y,Y,Y,Y,Z,Z,Z] rfl rfl (one_of HT_.out (by kernel_rfl)) (by decide) (fun K hK => ?_)
       refine Kd.R_lit_step k40 _ 40 ?hg (N := 152) ?hd (xs := ([(⟨rd y550 x4_2, 0, 0, 0, rd y534 x5_3⟩ : S40), (⟨rd y550 x4_2, 0, 0, rd y534 x5_3, 0⟩ : S40)] : List (S40))) (inner := [.int .i64 (rd y550 x4_2), .int .i64 0, .int .i64 0, .int .i64 0, .int .i64 (rd y534 x5_3), .int .i64 (rd y550 x4_2), .int .i64 0, .int .i64 0, .int .i64 (rd y534 x5_3), .int .i64 0]) (ok := fun _ => True) (okp := fun _ => True) ?hr ?hp (fun _ hk => hk) trivial (Below.refl _ _) (Nat.le_refl _) (by simp) ?_; (case hd => rfl); (case hg => rfl); (case hr => first | (go_simp; done) | (go_simp; rfl)); (case hp => exact (Reps.c5 (show Kd.M k40 _ _ _ (⟨rd y550 x4_2, 0, 0, 0, rd y534 x5_3⟩ : S40) [.int .i64 (rd y550 x4_2), .int .i64 0, .int .i64 0, .int .i64 0, .int .i64 (rd y534 x5_3)] from (k40_mkM _ _ _ (⟨rd y550 x4_2, 0, 0, 0, rd y534 x5_3⟩ : S40) )) (Reps.c5 (show Kd.M k40 _ _ _ (⟨rd y550 x4_2, 0, 0, rd y534 x5_3, 0⟩ : S40) [.int .i64 (rd y550 x4_2), .int .i64 0, .int .i64 0, .int .i64 (rd y534 x5_3), .int .i64 0] from (k40_mkM _ _ _ (⟨rd y550 x4_2, 0, 0, rd y534 x5_3, 0⟩ : S40) )) (Reps.none _ _))))
       intro v573 w58 ho59 hb hg_ hnew_
       have HS0_ := (hb.cell (World.block_lt_of_cell? _ _ (hHeld.1))).trans (hHeld.1)
       have HS1_ := (hb.cell (World.block_lt_of_cell? _ _ (hHeld.2.1))).trans (hHeld.2.1)
       have HS2_ := (hb.cell (World.block_lt_of_cell? _ _ (hHeld.2.2.1))).trans (hHeld.2.2.1)
       have HS3_ := (hb.cell (World.block_lt_of_cell? _ _ (hHeld.2.2.2.1))).trans (hHeld.2.2.2.1)
       have HS4_ := (hb.cell (World.block_lt_of_cell? _ _ (hHeld.2.2.2.2.1))).trans (hHeld.2.2.2.2.1)
       have HS5_ := (hb.cell (World.block_lt_of_cell? _ _ (hHeld.2.2.2.2.2.1))).trans (hHeld.2.2.2.2.2.1)
       have HS6_ := (hb.cell (World.block_lt_of_cell? _ _ (hHeld.2.2.2.2.2.2.1))).trans (hHeld.2.2.2.2.2.2.1)
       have HS7_ := (hb.cell (World.block_lt_of_cell? _ _ (hHeld.2.2.2.2.2.2.2.1))).trans (hHeld.2.2.2.2.2.2.2.1)
       have HS8_ := (hb.cell (World.block_lt_of_cell? _ _ (hHeld.2.2.2.2.2.2.2.2.1))).trans (hHeld.2.2.2.2.2.2.2.2.1)
       have HS9_ := (hb.cell (World.block_lt_of_cell? _ _ (hHeld.2.2.2.2.2.2.2.2.2.1))).trans (hHeld.2.2.2.2.2.2.2.2.2.1)
       have HS10_ := (hb.cell (World.block_lt_of_cell? _ _ (hHeld.2.2.2.2.2.2.2.2.2.2.1))).trans (hHeld.2.2.2.2.2.2.2.2.2.2.1)
       have HS11_ := (hb.cell (World.block_lt_of_cell? _ _ (hHeld.2.2.2.2.2.2.2.2.2.2.2.1))).trans (hHeld.2.2.2.2.2.2.2.2.2.2.2.1)
       have HS12_ := (hb.cell (World.block_lt_of_cell? _ _ (hHeld.2.2.2.2.2.2.2.2.2.2.2.2.1))).trans (hHeld.2.2.2.2.2.2.2.2.2.2.2.2.1)
       have HS13_ := (hb.cell (World.block_lt_of_cell? _ _ (hHeld.2.2.2.2.2.2.2.2.2.2.2.2.2))).trans (hHeld.2.2.2.2.2.2.2.2.2.2.2.2.2)
       clear hg_ hnew_
       (first | rw [← Ny572.out] at ho59 | (simp only [Int.reduceToNat] at ho59; rw [← Ny572.out] at ho59))
       have HO574 := Aside0.mk (Kd.R_lower ho59 (below_size bz_))
       replace HO_1 := Aside0.mk (Kd.R_below (ra_ HO_1.out) hb)
       replace HO_3 := Aside0.mk (Kd.R_below (ra_ HO_3.out) hb)
       replace HB := bl_ hb
       clear hb ho59
       obtain ⟨Ao60, co60, eo60⟩ := Kd.R_slice HO574.out
       (first | subst eo60 | (injection eo60 with f1_ f2_ f3_; have f4_ := f1_.symm; have f5_ := f3_.symm; clear f1_ f2_ f3_; subst f4_; subst f5_))
       refine hK.out _ _ ⟨HS0_, HS1_, HS2_, HS3_, HS4_, HS5_, HS6_, HS7_, HS8_, HS9_, HS10_, HS11_, HS12_, HS13_⟩ (fun hHeld => ?_)
       clear hK K
       refine norm_ (a' := ?_) ?_ ?_
       rotate_left
       ·show Act.put _ (some 152) _ = _
        simp only [Act.put, s1_, s2_, s3_, i64_w, i32_w]
        rfl
       refine one_ (i := 83) (N := some 153) #[Y,Y,Y,Y,Y,Y,Y,Y,Y,Y,Y,Y,Y,Y,Y,Y,Y,Y,Y,Y,Y,Y,Y,Y,Y,Y,Y,Y,Y,Y,Y,Y,Y,Y,Y,Y,Y,Y,Y,Y,Y,Y,Y,Y,Y,Y,Y,Y,Y,Y,Y,Y,Y,Y,Y,Y,Y,Y,Y,Y,Y,Y,Y,Y,Y,Y,Y,Y,Y,Y,Y,Y,Y,Y,Y,Y,Y,Y,Y,Y,Y,Y,Y,Y,Z,Z] rfl rfl (one_of HT_.out (by kernel_rfl)) (by decide) (fun K hK => ?_)
       refine goes_ Try.func3 (by kernel_rfl) rfl #[.slice Ao60 y572.length co60] (by rfl) rfl rfl mp_ ?_
       with_reducible refine (lockgatelaw02_InsnPuts.calls k3 _ _ y572 true _ ?side1 ?side2 (.mk rfl) A49.out).mono ?_
       (case side1 => exact ca_ ((Kd.R_reads' HO574.out).2.2))
       (case side2 => exact (Kd.R_reads' HO574.out).2.1)
       rintro e w61 ⟨rfl, hb⟩
       have HS0_ := (hb.cell (World.block_lt_of_cell? _ _ (hHeld.1))).trans (hHeld.1)
       have HS1_ := (hb.cell (World.block_lt_of_cell? _ _ (hHeld.2.1))).trans (hHeld.2.1)
       have HS2_ := (hb.cell (World.block_lt_of_cell? _ _ (hHeld.2.2.1))).trans (hHeld.2.2.1)
       have HS3_ := (hb.cell (World.block_lt_of_cell? _ _ (hHeld.2.2.2.1))).trans (hHeld.2.2.2.1)
       have HS4_ := (hb.cell (World.block_lt_of_cell? _ _ (hHeld.2.2.2.2.1))).trans (hHeld.2.2.2.2.1)
       have HS5_ := (hb.cell (World.block_lt_of_cell? _ _ (hHeld.2.2.2.2.2.1))).trans (hHeld.2.2.2.2.2.1)
       have HS6_ := (hb.cell (World.block_lt_of_cell? _ _ (hHeld.2.2.2.2.2.2.1))).trans (hHeld.2.2.2.2.2.2.1)
       have HS7_ := (hb.cell (World.block_lt_of_cell? _ _ (hHeld.2.2.2.2.2.2.2.1))).trans (hHeld.2.2.2.2.2.2.2.1)
       have HS8_ := (hb.cell (World.block_lt_of_cell? _ _ (hHeld.2.2.2.2.2.2.2.2.1))).trans (hHeld.2.2.2.2.2.2.2.2.1)
       have HS9_ := (hb.cell (World.block_lt_of_cell? _ _ (hHeld.2.2.2.2.2.2.2.2.2.1))).trans (hHeld.2.2.2.2.2.2.2.2.2.1)
       have HS10_ := (hb.cell (World.block_lt_of_cell? _ _ (hHeld.2.2.2.2.2.2.2.2.2.2.1))).trans (hHeld.2.2.2.2.2.2.2.2.2.2.1)
       have HS11_ := (hb.cell (World.block_lt_of_cell? _ _ (hHeld.2.2.2.2.2.2.2.2.2.2.2.1))).trans (hHeld.2.2.2.2.2.2.2.2.2.2.2.1)
       have HS12_ := (hb.cell (World.block_lt_of_cell? _ _ (hHeld.2.2.2.2.2.2.2.2.2.2.2.2.1))).trans (hHeld.2.2.2.2.2.2.2.2.2.2.2.2.1)
       have HS13_ := (hb.cell (World.block_lt_of_cell? _ _ (hHeld.2.2.2.2.2.2.2.2.2.2.2.2.2))).trans (hHeld.2.2.2.2.2.2.2.2.2.2.2.2.2)
       refine ⟨_, rfl, ?_⟩
       replace HO_1 := Aside0.mk (Kd.R_below (ra_ HO_1.out) hb)
       replace HO_3 := Aside0.mk (Kd.R_below (ra_ HO_3.out) hb)
       replace HO574 := Aside0.mk (Kd.R_below (ra_ HO574.out) hb)
       replace HB := bl_ hb
       try clear hb
       refine hK.out _ _ ⟨HS0_, HS1_, HS2_, HS3_, HS4_, HS5_, HS6_, HS7_, HS8_, HS9_, HS10_, HS11_, HS12_, HS13_⟩ (fun hHeld => ?_)
       clear hK K
       refine norm_ (a' := ?_) ?_ ?_
       rotate_left
       ·show Act.put _ (some 153) _ = _
        simp only [Act.put, s1_, s2_, s3_, i64_w, i32_w]
        rfl
       refine pq_ 84 154 #[Y,Y,Y,Y,Y,Y,Y,Y,Y,Y,Y,Y,Y,Y,Y,Y,Y,Y,Y,Y,Y,Y,Y,Y,Y,Y,Y,Y,Y,Y,Y,Y,Y,Y,Y,Y,Y,Y,Y,Y,Y,Y,Y,Y,Y,Y,Y,Y,Y,Y,Y,Y,Y,Y,Y,Y,Y,Y,Y,Y,Y,Y,Y,Y,Y,Y,Y,Y,Y,Y,Y,Y,Y,Y,Y,Y,Y,Y,Y,Y,Y,Y,Y,Y,Y,Z] ?_
       refine pq_ 85 155 #[Y,Y,Y,Y,Y,Y,Y,Y,Y,Y,Y,Y,Y,Y,Y,Y,Y,Y,Y,Y,Y,Y,Y,Y,Y,Y,Y,Y,Y,Y,Y,Y,Y,Y,Y,Y,Y,Y,Y,Y,Y,Y,Y,Y,Y,Y,Y,Y,Y,Y,Y,Y,Y,Y,Y,Y,Y,Y,Y,Y,Y,Y,Y,Y,Y,Y,Y,Y,Y,Y,Y,Y,Y,Y,Y,Y,Y,Y,Y,Y,Y,Y,Y,Y,Y,Y] ?_
       refine done_ (done_of HT_.out (by kernel_rfl)) ?_
       try go_wp2
       go_roundg k3
       case measure => have := HK1.out; have := HK2.out; have := HK3.out; omega
       case rel => exact ⟨(wrap64 (x5_3 + 1)), vs_, H', ⟨by have := HK1.out; have := HK2.out; have := HK3.out; omega⟩, ⟨by (with_reducible repeat (first | apply Kd.R_alloc | apply Kd.R_drewN | apply Kd.R_drew)); exact HO_1.out⟩, ⟨by (with_reducible repeat (first | apply Kd.R_alloc | apply Kd.R_drewN | apply Kd.R_drew)); exact HO_3.out⟩, ⟨bz_⟩⟩
end Go.Proofs.Yticijjonimiooaa.PA
