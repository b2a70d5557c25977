-- PRINTED by print.py (a twelfth state) out of the translation. Not trusted: Lean checks it.
import Derived.Test.YtnephcecobocdaaWTab
import Derived.Test.YtnephcecobocdaaPA0
import Derived.Test.YtnephcecobocdaaSq
import Derived.Test.YtnephcecobocdaaPA1
import Derived.Test.YtnephcecobocdaaPA2
import Derived.Test.YtnephcecobocdaaPA3
import Derived.Test.YtnephcecobocdaaPA6
import Derived.Test.YtnephcecobocdaaPA7
import Derived.Test.YtnephcecobocdaaPA8
import Derived.Test.YtnephcecobocdaaPA9
import Derived.Test.YtnephcecobocdaaPA10
import Derived.Test.YtnephcecobocdaaPA11
import Derived.Test.YtnephcecobocdaaPA15
import Derived.Test.YtnephcecobocdaaPA16
import Derived.Test.YtnephcecobocdaaPA17
import Derived.Test.YtnephcecobocdaaPA18
import Derived.Test.YtnephcecobocdaaPA19
import Derived.Test.YtnephcecobocdaaPA20
import Derived.Test.YtnephcecobocdaaPA21
import Derived.Test.YtnephcecobocdaaPA22
import Derived.Test.YtnephcecobocdaaPA23
import Derived.Test.YtnephcecobocdaaPA24
import Derived.Test.YtnephcecobocdaaPA25
import Derived.Test.YtnephcecobocdaaPA26
import Derived.Test.YtnephcecobocdaaPA28
namespace Go.Proofs.Ytnephcecobocdaa.PA
open Go.RowKit Go.Proofs.YtnephcecobocdaaW.PrintWords Go.Proofs.YtnephcecobocdaaW.PrintLast Go.Proofs.YtnephcecobocdaaW.PrintMore
attribute [local go_sem] max2_int min2_int max_two min_two max_three min_three max_four min_four   -- for this text's walks alone
set_option linter.unusedVariables false
set_option linter.unusedSimpArgs false

attribute [local go_sem high] eqA24 eqA26 eqA28
/-! ### lockgatelaw04_SpanUnsigned: function 10 -/
mutual
def lockgatelaw04_SpanUnsigned.j0 : Nat → Int → Int → Bool → Int → Int → Int → Int → Option (Bool)
 | 0, _, _, _, _, _, _, _ => none
 | k + 1, x2, x3, x67, x719000, x719001, x720000, x720001 => if x67 = true then (some false) else ((span_UAdd.f x719000 x719001 x720000 x720001).bind fun bt736 => ((lockgateref04_UAdd.f x719000 x719001 x720000 x720001).bind fun bt738 => (if (!(bt736.1 == bt738.1) || (!(bt736.2 == bt738.2))) = true then (lockgatelaw04_SpanUnsigned.j1 k x2 x3 true x719000 x719001 x720000 x720001) else ((span_USub.f x719000 x719001 x720000 x720001).bind fun bt740 => ((lockgateref04_USub.f x719000 x719001 x720000 x720001).bind fun bt742 => (if (!(bt740.1 == bt742.1) || (!(bt740.2 == bt742.2))) = true then (lockgatelaw04_SpanUnsigned.j1 k x2 x3 true x719000 x719001 x720000 x720001) else ((span_UMul.f x719000 x719001 x720000 x720001).bind fun bt744 => ((lockgateref04_UMul.f x719000 x719001 x720000 x720001).bind fun bt746 => (if (!(bt744.1 == bt746.1) || (!(bt744.2 == bt746.2))) = true then (lockgatelaw04_SpanUnsigned.j1 k x2 x3 true x719000 x719001 x720000 x720001) else ((span_UDiv.f x719000 x719001 x720000 x720001).bind fun bt748 => ((lockgateref04_UDiv.f x719000 x719001 x720000 x720001).bind fun bt750 => (if (!(bt748.1 == bt750.1) || (!(bt748.2 == bt750.2))) = true then (lockgatelaw04_SpanUnsigned.j1 k x2 x3 true x719000 x719001 x720000 x720001) else ((span_UMod.f k x719000 x719001 x720000 x720001).bind fun bt752 => ((lockgateref04_UMod.f k x719000 x719001 x720000 x720001).bind fun bt754 => (lockgatelaw04_SpanUnsigned.j1 k x2 x3 (!(bt752.1 == bt754.1) || (!(bt752.2 == bt754.2))) x719000 x719001 x720000 x720001)))))))))))))))
def lockgatelaw04_SpanUnsigned.j1 : Nat → Int → Int → Bool → Int → Int → Int → Int → Option (Bool)
 | 0, _, _, _, _, _, _, _ => none
 | k + 1, x2, x3, x110, x719000, x719001, x720000, x720001 => if x110 = true then (some false) else ((span_UAnd.f x719000 x719001 x720000 x720001).bind fun bt756 => ((lockgateref04_UAnd.f k x719000 x719001 x720000 x720001).bind fun bt758 => (if (!(bt756.1 == bt758.1) || (!(bt756.2 == bt758.2))) = true then (lockgatelaw04_SpanUnsigned.j2 k x3 true x719000 x719001) else ((span_UOr.f k x719000 x719001 x720000 x720001).bind fun bt760 => ((lockgateref04_UOr.f k x719000 x719001 x720000 x720001).bind fun bt762 => (if (!(bt760.1 == bt762.1) || (!(bt760.2 == bt762.2))) = true then (lockgatelaw04_SpanUnsigned.j2 k x3 true x719000 x719001) else ((span_ULsh.f x719000 x719001 x2).bind fun bt764 => ((lockgateref04_ULsh.f k x719000 x719001 x2).bind fun bt766 => (if (!(bt764.1 == bt766.1) || (!(bt764.2 == bt766.2))) = true then (lockgatelaw04_SpanUnsigned.j2 k x3 true x719000 x719001) else ((span_URsh.f x719000 x719001 x2).bind fun bt768 => ((lockgateref04_URsh.f k x719000 x719001 x2).bind fun bt770 => (if (!(bt768.1 == bt770.1) || (!(bt768.2 == bt770.2))) = true then (lockgatelaw04_SpanUnsigned.j2 k x3 true x719000 x719001) else ((span_UCut.f x719000 x719001).bind fun bt772 => ((lockgateref04_UCut.f x719000 x719001).bind fun bt774 => (lockgatelaw04_SpanUnsigned.j2 k x3 (!(bt772.1 == bt774.1) || (!(bt772.2 == bt774.2))) x719000 x719001)))))))))))))))
def lockgatelaw04_SpanUnsigned.j2 : Nat → Int → Bool → Int → Int → Option (Bool)
 | 0, _, _, _, _ => none
 | k + 1, x3, x151, x719000, x719001 => if x151 = true then (some false) else ((span_ToS.f x719000 x719001).bind fun bt776 => ((lockgateref04_ToS.f x719000 x719001).bind fun bt778 => (if (bt776.1 == bt778.1 && (bt776.2 == bt778.2)) = true then ((span_ToT.f k x719000 x719001).bind fun bt780 => ((lockgateref04_ToT.f k x719000 x719001).bind fun bt782 => (if (bt780.1 == bt782.1 && (bt780.2 == bt782.2)) = true then ((span_UAll.f).bind fun bt784 => ((lockgateref04_UAll.f).bind fun bt786 => (if (bt784.1 == bt786.1 && (bt784.2 == bt786.2)) = true then ((span_UOf.f x3).bind fun bt788 => ((lockgateref04_UOf.f x3).bind fun bt790 => (if (bt788.1 == bt790.1 && (bt788.2 == bt790.2)) = true then ((lockgatelaw04_works.f k).bind fun t792 => (some t792)) else (some false)))) else (some false)))) else (some false)))) else (some false))))
end
def lockgatelaw04_SpanUnsigned.f (k : Nat) (a0_0 : Int) (a0_1 : Int) (a1_0 : Int) (a1_1 : Int) (a2 : Int) (a3 : Int) : Option (Bool) := (lockgatelaw04_Us.f a0_0 a0_1 a1_0 a1_1).bind fun bt714 => ((span_UMeet.f bt714.1 bt714.2.1 bt714.2.2.1 bt714.2.2.2).bind fun bt720 => ((lockgateref04_UMeet.f k bt714.1 bt714.2.1 bt714.2.2.1 bt714.2.2.2).bind fun bt724 => (if (!(bt720.1 == bt724.1) || (!(bt720.2.1 == bt724.2.1))) = true then (lockgatelaw04_SpanUnsigned.j0 k a2 a3 true bt714.1 bt714.2.1 bt714.2.2.1 bt714.2.2.2) else (if (bt720.2.2 != bt724.2.2) = true then (lockgatelaw04_SpanUnsigned.j0 k a2 a3 true bt714.1 bt714.2.1 bt714.2.2.1 bt714.2.2.2) else ((span_UIn.f bt714.1 bt714.2.1 a3).bind fun t728 => ((lockgateref04_UIn.f bt714.1 bt714.2.1 a3).bind fun t729 => (if (t728 != t729) = true then (lockgatelaw04_SpanUnsigned.j0 k a2 a3 true bt714.1 bt714.2.1 bt714.2.2.1 bt714.2.2.2) else ((span_UWithin.f bt714.1 bt714.2.1 bt714.2.2.1 bt714.2.2.2).bind fun t730 => ((lockgateref04_UWithin.f bt714.1 bt714.2.1 bt714.2.2.1 bt714.2.2.2).bind fun t731 => (if (t730 != t731) = true then (lockgatelaw04_SpanUnsigned.j0 k a2 a3 true bt714.1 bt714.2.1 bt714.2.2.1 bt714.2.2.2) else ((span_UJoin.f bt714.1 bt714.2.1 bt714.2.2.1 bt714.2.2.2).bind fun bt732 => ((lockgateref04_UJoin.f bt714.1 bt714.2.1 bt714.2.2.1 bt714.2.2.2).bind fun bt734 => (lockgatelaw04_SpanUnsigned.j0 k a2 a3 (!(bt732.1 == bt734.1) || (!(bt732.2 == bt734.2))) bt714.1 bt714.2.1 bt714.2.2.1 bt714.2.2.2)))))))))))))
theorem lockgatelaw04_SpanUnsigned.mono_l : ∀ k, (∀ y0 y1 y2 y3 y4 y5 y6, LeO (lockgatelaw04_SpanUnsigned.j0 k y0 y1 y2 y3 y4 y5 y6) (lockgatelaw04_SpanUnsigned.j0 (k + 1) y0 y1 y2 y3 y4 y5 y6)) ∧ (∀ y0 y1 y2 y3 y4 y5 y6, LeO (lockgatelaw04_SpanUnsigned.j1 k y0 y1 y2 y3 y4 y5 y6) (lockgatelaw04_SpanUnsigned.j1 (k + 1) y0 y1 y2 y3 y4 y5 y6)) ∧ (∀ y0 y1 y2 y3, LeO (lockgatelaw04_SpanUnsigned.j2 k y0 y1 y2 y3) (lockgatelaw04_SpanUnsigned.j2 (k + 1) y0 y1 y2 y3))
 | 0 => ⟨fun _ _ _ _ _ _ _ r h => by simp [lockgatelaw04_SpanUnsigned.j0] at h, fun _ _ _ _ _ _ _ r h => by simp [lockgatelaw04_SpanUnsigned.j1] at h, fun _ _ _ _ r h => by simp [lockgatelaw04_SpanUnsigned.j2] at h⟩
 | k + 1 => by
  obtain ⟨ih0, ih1, ih2⟩ := lockgatelaw04_SpanUnsigned.mono_l k
  refine ⟨?_, ?_, ?_⟩
  ·intro y0 y1 y2 y3 y4 y5 y6
   unfold lockgatelaw04_SpanUnsigned.j0
   repeat' first
   | (with_reducible exact ih0 _ _ _ _ _ _ _)
   | (with_reducible exact ih1 _ _ _ _ _ _ _)
   | (with_reducible exact ih2 _ _ _ _)
   | (with_reducible exact lockgatelaw04_works.mono _)
   | (with_reducible exact lockgateref04_ToT.mono _ _ _)
   | (with_reducible exact lockgateref04_UAnd.mono _ _ _ _ _)
   | (with_reducible exact lockgateref04_ULsh.mono _ _ _ _)
   | (with_reducible exact lockgateref04_UMeet.mono _ _ _ _ _)
   | (with_reducible exact lockgateref04_UMod.mono _ _ _ _ _)
   | (with_reducible exact lockgateref04_UOr.mono _ _ _ _ _)
   | (with_reducible exact lockgateref04_URsh.mono _ _ _ _)
   | (with_reducible exact span_ToT.mono _ _ _)
   | (with_reducible exact span_UMod.mono _ _ _ _ _)
   | (with_reducible exact span_UOr.mono _ _ _ _ _)
   | (with_reducible exact LeO.refl _)
   | (with_reducible exact LeO.none _)
   | (with_reducible refine LeO.ite ?_ ?_)
   | (with_reducible refine LeO.bind ?_ (fun _ => ?_))
   | exact ih0 _ _ _ _ _ _ _
   | exact ih1 _ _ _ _ _ _ _
   | exact ih2 _ _ _ _
   | exact lockgatelaw04_works.mono _
   | exact lockgateref04_ToT.mono _ _ _
   | exact lockgateref04_UAnd.mono _ _ _ _ _
   | exact lockgateref04_ULsh.mono _ _ _ _
   | exact lockgateref04_UMeet.mono _ _ _ _ _
   | exact lockgateref04_UMod.mono _ _ _ _ _
   | exact lockgateref04_UOr.mono _ _ _ _ _
   | exact lockgateref04_URsh.mono _ _ _ _
   | exact span_ToT.mono _ _ _
   | exact span_UMod.mono _ _ _ _ _
   | exact span_UOr.mono _ _ _ _ _
   | exact LeO.none _
   | refine LeO.ite ?_ ?_
   | refine LeO.bind ?_ (fun _ => ?_)
  ·intro y0 y1 y2 y3 y4 y5 y6
   unfold lockgatelaw04_SpanUnsigned.j1
   repeat' first
   | (with_reducible exact ih0 _ _ _ _ _ _ _)
   | (with_reducible exact ih1 _ _ _ _ _ _ _)
   | (with_reducible exact ih2 _ _ _ _)
   | (with_reducible exact lockgatelaw04_works.mono _)
   | (with_reducible exact lockgateref04_ToT.mono _ _ _)
   | (with_reducible exact lockgateref04_UAnd.mono _ _ _ _ _)
   | (with_reducible exact lockgateref04_ULsh.mono _ _ _ _)
   | (with_reducible exact lockgateref04_UMeet.mono _ _ _ _ _)
   | (with_reducible exact lockgateref04_UMod.mono _ _ _ _ _)
   | (with_reducible exact lockgateref04_UOr.mono _ _ _ _ _)
   | (with_reducible exact lockgateref04_URsh.mono _ _ _ _)
   | (with_reducible exact span_ToT.mono _ _ _)
   | (with_reducible exact span_UMod.mono _ _ _ _ _)
   | (with_reducible exact span_UOr.mono _ _ _ _ _)
   | (with_reducible exact LeO.refl _)
   | (with_reducible exact LeO.none _)
   | (with_reducible refine LeO.ite ?_ ?_)
   | (with_reducible refine LeO.bind ?_ (fun _ => ?_))
   | exact ih0 _ _ _ _ _ _ _
   | exact ih1 _ _ _ _ _ _ _
   | exact ih2 _ _ _ _
   | exact lockgatelaw04_works.mono _
   | exact lockgateref04_ToT.mono _ _ _
   | exact lockgateref04_UAnd.mono _ _ _ _ _
   | exact lockgateref04_ULsh.mono _ _ _ _
   | exact lockgateref04_UMeet.mono _ _ _ _ _
   | exact lockgateref04_UMod.mono _ _ _ _ _
   | exact lockgateref04_UOr.mono _ _ _ _ _
   | exact lockgateref04_URsh.mono _ _ _ _
   | exact span_ToT.mono _ _ _
   | exact span_UMod.mono _ _ _ _ _
   | exact span_UOr.mono _ _ _ _ _
   | exact LeO.none _
   | refine LeO.ite ?_ ?_
   | refine LeO.bind ?_ (fun _ => ?_)
  ·intro y0 y1 y2 y3
   unfold lockgatelaw04_SpanUnsigned.j2
   repeat' first
   | (with_reducible exact ih0 _ _ _ _ _ _ _)
   | (with_reducible exact ih1 _ _ _ _ _ _ _)
   | (with_reducible exact ih2 _ _ _ _)
   | (with_reducible exact lockgatelaw04_works.mono _)
   | (with_reducible exact lockgateref04_ToT.mono _ _ _)
   | (with_reducible exact lockgateref04_UAnd.mono _ _ _ _ _)
   | (with_reducible exact lockgateref04_ULsh.mono _ _ _ _)
   | (with_reducible exact lockgateref04_UMeet.mono _ _ _ _ _)
   | (with_reducible exact lockgateref04_UMod.mono _ _ _ _ _)
   | (with_reducible exact lockgateref04_UOr.mono _ _ _ _ _)
   | (with_reducible exact lockgateref04_URsh.mono _ _ _ _)
   | (with_reducible exact span_ToT.mono _ _ _)
   | (with_reducible exact span_UMod.mono _ _ _ _ _)
   | (with_reducible exact span_UOr.mono _ _ _ _ _)
   | (with_reducible exact LeO.refl _)
   | (with_reducible exact LeO.none _)
   | (with_reducible refine LeO.ite ?_ ?_)
   | (with_reducible refine LeO.bind ?_ (fun _ => ?_))
   | exact ih0 _ _ _ _ _ _ _
   | exact ih1 _ _ _ _ _ _ _
   | exact ih2 _ _ _ _
   | exact lockgatelaw04_works.mono _
   | exact lockgateref04_ToT.mono _ _ _
   | exact lockgateref04_UAnd.mono _ _ _ _ _
   | exact lockgateref04_ULsh.mono _ _ _ _
   | exact lockgateref04_UMeet.mono _ _ _ _ _
   | exact lockgateref04_UMod.mono _ _ _ _ _
   | exact lockgateref04_UOr.mono _ _ _ _ _
   | exact lockgateref04_URsh.mono _ _ _ _
   | exact span_ToT.mono _ _ _
   | exact span_UMod.mono _ _ _ _ _
   | exact span_UOr.mono _ _ _ _ _
   | exact LeO.none _
   | refine LeO.ite ?_ ?_
   | refine LeO.bind ?_ (fun _ => ?_)
theorem lockgatelaw04_SpanUnsigned.mono : ∀ a0 a1 a2 a3 a4 a5 k, LeO (lockgatelaw04_SpanUnsigned.f k a0 a1 a2 a3 a4 a5) (lockgatelaw04_SpanUnsigned.f (k + 1) a0 a1 a2 a3 a4 a5) := by
 intro a0 a1 a2 a3 a4 a5 k
 obtain ⟨ih0, ih1, ih2⟩ := lockgatelaw04_SpanUnsigned.mono_l k
 unfold lockgatelaw04_SpanUnsigned.f
 repeat' first
  | (with_reducible exact ih0 _ _ _ _ _ _ _)
  | (with_reducible exact ih1 _ _ _ _ _ _ _)
  | (with_reducible exact ih2 _ _ _ _)
  | (with_reducible exact lockgatelaw04_works.mono _)
  | (with_reducible exact lockgateref04_ToT.mono _ _ _)
  | (with_reducible exact lockgateref04_UAnd.mono _ _ _ _ _)
  | (with_reducible exact lockgateref04_ULsh.mono _ _ _ _)
  | (with_reducible exact lockgateref04_UMeet.mono _ _ _ _ _)
  | (with_reducible exact lockgateref04_UMod.mono _ _ _ _ _)
  | (with_reducible exact lockgateref04_UOr.mono _ _ _ _ _)
  | (with_reducible exact lockgateref04_URsh.mono _ _ _ _)
  | (with_reducible exact span_ToT.mono _ _ _)
  | (with_reducible exact span_UMod.mono _ _ _ _ _)
  | (with_reducible exact span_UOr.mono _ _ _ _ _)
  | (with_reducible exact LeO.refl _)
  | (with_reducible exact LeO.none _)
  | (with_reducible refine LeO.ite ?_ ?_)
  | (with_reducible refine LeO.bind ?_ (fun _ => ?_))
  | exact ih0 _ _ _ _ _ _ _
  | exact ih1 _ _ _ _ _ _ _
  | exact ih2 _ _ _ _
  | exact lockgatelaw04_works.mono _
  | exact lockgateref04_ToT.mono _ _ _
  | exact lockgateref04_UAnd.mono _ _ _ _ _
  | exact lockgateref04_ULsh.mono _ _ _ _
  | exact lockgateref04_UMeet.mono _ _ _ _ _
  | exact lockgateref04_UMod.mono _ _ _ _ _
  | exact lockgateref04_UOr.mono _ _ _ _ _
  | exact lockgateref04_URsh.mono _ _ _ _
  | exact span_ToT.mono _ _ _
  | exact span_UMod.mono _ _ _ _ _
  | exact span_UOr.mono _ _ _ _ _
  | exact LeO.none _
  | refine LeO.ite ?_ ?_
  | refine LeO.bind ?_ (fun _ => ?_)
def lockgatelaw04_SpanUnsigned.T4 : Bool × List (List Nat × List Nat) := (true, [([], []), ([], []), ([0, 1], [0, 1]), ([2], [2]), ([3], [3]), ([3], [3]), ([4, 5, 3], [3, 4, 5]), ([3, 6], [3, 6]), ([7, 3], [7]), ([8], [8]), ([8], [8]), ([9, 10, 8, 8], [8, 9, 10]), ([8], [8]), ([8], [8]), ([12, 13, 11, 8], [8, 12, 13]), ([11, 14, 8], [8, 11, 14]), ([8, 15], [8, 15]), ([16, 14], [16]), ([17], [17]), ([17], [17]), ([18, 19, 17, 17], [17, 18, 19]), ([17], [17]), ([17], [17]), ([21, 22, 20, 17], [17, 21, 22]), ([20, 23, 17], [17, 20, 23]), ([17, 24], [17, 24]), ([25, 23], [25]), ([26], [26]), ([26], [26]), ([27, 28, 26, 26], [26, 27, 28]), ([26], [26]), ([26], [26]), ([30, 31, 29, 26], [26, 30, 31]), ([29, 32, 26], [26, 29, 32]), ([26, 33], [26, 33])])
def lockgatelaw04_SpanUnsigned.B4 : List Nat := [0, 0, 3, 7, 15, 15, 63, 127, 255, 511, 511, 2047, 511, 511, 16383, 32767, 65535, 131071, 262143, 262143, 1048575, 262143, 262143, 8388607, 16777215, 33554431, 67108863, 134217727, 134217727, 536870911, 134217727, 134217727, 4294967295, 8589934591, 17179869183]
theorem lockgatelaw04_SpanUnsigned.tab4 : rtab .any (opsOf Try.f10 4) = lockgatelaw04_SpanUnsigned.T4 := by kernel_rfl
theorem lockgatelaw04_SpanUnsigned.bits4 : waitsOk lockgatelaw04_SpanUnsigned.T4.2 lockgatelaw04_SpanUnsigned.B4 = true := by kernel_rfl
def lockgatelaw04_SpanUnsigned.T6 : Bool × List (List Nat × List Nat) := (true, [([], []), ([], []), ([0, 1], [0, 1]), ([], []), ([], []), ([3, 4, 2], [3, 4]), ([2, 5], [2, 5]), ([6, 5], [6]), ([7], [7]), ([7], [7]), ([8, 9, 7, 7], [7, 8, 9]), ([7], [7]), ([7], [7]), ([11, 12, 10, 7], [7, 11, 12]), ([10, 13, 7], [7, 10, 13]), ([7, 14], [7, 14]), ([15, 13], [15]), ([16], [16]), ([16], [16]), ([17, 18, 16, 16], [16, 17, 18]), ([16], [16]), ([16], [16]), ([20, 21, 19, 16], [16, 20, 21]), ([19, 22, 16], [16, 19, 22]), ([16, 23], [16, 23]), ([24, 22], [24]), ([25], [25]), ([25], [25]), ([26, 27, 25, 25], [25, 26, 27]), ([25], [25]), ([25], [25]), ([29, 30, 28, 25], [25, 29, 30]), ([28, 31, 25], [25, 28, 31]), ([25, 32], [25, 32]), ([33, 31], [33]), ([34], [34]), ([34], [34]), ([35, 36, 34, 34], [34, 35, 36]), ([34], [34]), ([34], [34]), ([38, 39, 37, 34], [34, 38, 39]), ([37, 40, 34], [34, 37, 40]), ([34, 41], [34, 41])])
def lockgatelaw04_SpanUnsigned.B6 : List Nat := [0, 0, 3, 0, 0, 31, 63, 127, 255, 255, 1023, 255, 255, 8191, 16383, 32767, 65535, 131071, 131071, 524287, 131071, 131071, 4194303, 8388607, 16777215, 33554431, 67108863, 67108863, 268435455, 67108863, 67108863, 2147483647, 4294967295, 8589934591, 17179869183, 34359738367, 34359738367, 137438953471, 34359738367, 34359738367, 1099511627775, 2199023255551, 4398046511103]
theorem lockgatelaw04_SpanUnsigned.tab6 : rtab .any (opsOf Try.f10 6) = lockgatelaw04_SpanUnsigned.T6 := by kernel_rfl
theorem lockgatelaw04_SpanUnsigned.bits6 : waitsOk lockgatelaw04_SpanUnsigned.T6.2 lockgatelaw04_SpanUnsigned.B6 = true := by kernel_rfl
def lockgatelaw04_SpanUnsigned.T8 : Bool × List (List Nat × List Nat) := (true, [([], []), ([], []), ([0, 1], [0, 1]), ([], []), ([], []), ([3, 4, 2], [3, 4]), ([2, 5], [2, 5]), ([6, 5], [6]), ([7], [7]), ([7], [7]), ([8, 9, 7, 7], [7, 8, 9]), ([7], [7]), ([7], [7]), ([11, 12, 10, 7], [7, 11, 12]), ([10, 13, 7], [7, 10, 13]), ([7, 14], [7, 14]), ([15, 13], [15]), ([16], [16]), ([16], [16]), ([17, 18, 16, 16], [16, 17, 18]), ([16], [16]), ([16], [16]), ([20, 21, 19, 16], [16, 20, 21]), ([19, 22, 16], [16, 19, 22]), ([16, 23], [16, 23]), ([24, 22], [24]), ([25], [25]), ([25], [25]), ([26, 27, 25, 25], [25, 26, 27]), ([25], [25]), ([25], [25]), ([29, 30, 28, 25], [25, 29, 30]), ([28, 31, 25], [25, 28, 31]), ([25, 32], [25, 32]), ([33, 31], [33]), ([34], [34]), ([35, 34, 34], [34, 35]), ([34], [34]), ([37, 36, 34], [34, 37]), ([36, 38, 34], [34, 36, 38]), ([34, 39], [34, 39])])
def lockgatelaw04_SpanUnsigned.B8 : List Nat := [0, 0, 3, 0, 0, 31, 63, 127, 255, 255, 1023, 255, 255, 8191, 16383, 32767, 65535, 131071, 131071, 524287, 131071, 131071, 4194303, 8388607, 16777215, 33554431, 67108863, 67108863, 268435455, 67108863, 67108863, 2147483647, 4294967295, 8589934591, 17179869183, 34359738367, 68719476735, 34359738367, 274877906943, 549755813887, 1099511627775]
theorem lockgatelaw04_SpanUnsigned.tab8 : rtab .any (opsOf Try.f10 8) = lockgatelaw04_SpanUnsigned.T8 := by kernel_rfl
theorem lockgatelaw04_SpanUnsigned.bits8 : waitsOk lockgatelaw04_SpanUnsigned.T8.2 lockgatelaw04_SpanUnsigned.B8 = true := by kernel_rfl
def lockgatelaw04_SpanUnsigned.T10 : Bool × List (List Nat × List Nat) := (true, [([], []), ([0], [0]), ([], []), ([2, 1], [2]), ([1, 3], [1, 3]), ([4, 3], [4]), ([5], [5]), ([6, 5, 5], [5, 6]), ([5], [5]), ([8, 7, 5], [5, 8]), ([7, 9, 5], [5, 7, 9]), ([5, 10], [5, 10]), ([11, 9], [11]), ([12, 12], [12]), ([13, 12], [12]), ([13, 14, 12], [12, 13, 14]), ([12, 15], [12, 15]), ([16, 14], [16]), ([17], [17]), ([18, 17, 17], [17, 18]), ([17], [17]), ([20, 19, 17], [17, 20]), ([19, 21, 17], [17, 19, 21]), ([17, 22], [17, 22]), ([23, 21], [23]), ([24, 24], [24]), ([24, 25], [24, 25]), ([26, 25, 0, 1, 2, 3, 4, 5, 6, 7, 8, 9, 10, 11, 12, 13, 14, 15, 16, 17, 18, 19, 20, 21, 22, 23, 24, 25, 26], [26])])
def lockgatelaw04_SpanUnsigned.B10 : List Nat := [0, 1, 0, 7, 15, 31, 63, 127, 63, 511, 1023, 2047, 4095, 8191, 16383, 32767, 65535, 131071, 262143, 524287, 262143, 2097151, 4194303, 8388607, 16777215, 33554431, 67108863, 134217727]
theorem lockgatelaw04_SpanUnsigned.tab10 : rtab .any (opsOf Try.f10 10) = lockgatelaw04_SpanUnsigned.T10 := by kernel_rfl
theorem lockgatelaw04_SpanUnsigned.bits10 : waitsOk lockgatelaw04_SpanUnsigned.T10.2 lockgatelaw04_SpanUnsigned.B10 = true := by kernel_rfl
set_option maxHeartbeats 8000000 in
set_option maxRecDepth 100000 in
theorem lockgatelaw04_SpanUnsigned.calls (k : Nat) (a0_0 : Int) (a0_1 : Int) (a1_0 : Int) (a1_1 : Int) (a2 : Int) (a3 : Int) (r : Bool) (w : World) (HRT : Aside0 (r = true)) (h : lockgatelaw04_SpanUnsigned.f k a0_0 a0_1 a1_0 a1_1 a2 a3 = some r) :
 Calls Try.prog 10 #[.agg #[.int .u64 a0_0, .int .u64 a0_1], .agg #[.int .u64 a1_0, .int .u64 a1_1], .int .i64 a2, .int .u64 a3] w fun e w' => e = .returned (.bool r) ∧ Below w.heap.size w w' := by
 have hu26 := Try.underlying26
 have HB := Aside0.mk (Below.refl w.heap.size w)
 have H : ((lockgatelaw04_Us.f a0_0 a0_1 a1_0 a1_1).bind fun bt714 => ((span_UMeet.f bt714.1 bt714.2.1 bt714.2.2.1 bt714.2.2.2).bind fun bt720 => ((lockgateref04_UMeet.f k bt714.1 bt714.2.1 bt714.2.2.1 bt714.2.2.2).bind fun bt724 => (if (!(bt720.1 == bt724.1) || (!(bt720.2.1 == bt724.2.1))) = true then (lockgatelaw04_SpanUnsigned.j0 k a2 a3 true bt714.1 bt714.2.1 bt714.2.2.1 bt714.2.2.2) else (if (bt720.2.2 != bt724.2.2) = true then (lockgatelaw04_SpanUnsigned.j0 k a2 a3 true bt714.1 bt714.2.1 bt714.2.2.1 bt714.2.2.2) else ((span_UIn.f bt714.1 bt714.2.1 a3).bind fun t728 => ((lockgateref04_UIn.f bt714.1 bt714.2.1 a3).bind fun t729 => (if (t728 != t729) = true then (lockgatelaw04_SpanUnsigned.j0 k a2 a3 true bt714.1 bt714.2.1 bt714.2.2.1 bt714.2.2.2) else ((span_UWithin.f bt714.1 bt714.2.1 bt714.2.2.1 bt714.2.2.2).bind fun t730 => ((lockgateref04_UWithin.f bt714.1 bt714.2.1 bt714.2.2.1 bt714.2.2.2).bind fun t731 => (if (t730 != t731) = true then (lockgatelaw04_SpanUnsigned.j0 k a2 a3 true bt714.1 bt714.2.1 bt714.2.2.1 bt714.2.2.2) else ((span_UJoin.f bt714.1 bt714.2.1 bt714.2.2.1 bt714.2.2.2).bind fun bt732 => ((lockgateref04_UJoin.f bt714.1 bt714.2.1 bt714.2.2.1 bt714.2.2.2).bind fun bt734 => (lockgatelaw04_SpanUnsigned.j0 k a2 a3 (!(bt732.1 == bt734.1) || (!(bt732.2 == bt734.2))) bt714.1 bt714.2.1 bt714.2.2.1 bt714.2.2.2)))))))))))))) = some r := h
 clear h
 replace H := Option.bind_eq_some_iff.mp H
 obtain ⟨⟨t714, t715, t716, t717⟩, A50, H⟩ := H
 replace H : ((span_UMeet.f t714 t715 t716 t717).bind fun bt720 => ((lockgateref04_UMeet.f k t714 t715 t716 t717).bind fun bt724 => (if (!(bt720.1 == bt724.1) || (!(bt720.2.1 == bt724.2.1))) = true then (lockgatelaw04_SpanUnsigned.j0 k a2 a3 true t714 t715 t716 t717) else (if (bt720.2.2 != bt724.2.2) = true then (lockgatelaw04_SpanUnsigned.j0 k a2 a3 true t714 t715 t716 t717) else ((span_UIn.f t714 t715 a3).bind fun t728 => ((lockgateref04_UIn.f t714 t715 a3).bind fun t729 => (if (t728 != t729) = true then (lockgatelaw04_SpanUnsigned.j0 k a2 a3 true t714 t715 t716 t717) else ((span_UWithin.f t714 t715 t716 t717).bind fun t730 => ((lockgateref04_UWithin.f t714 t715 t716 t717).bind fun t731 => (if (t730 != t731) = true then (lockgatelaw04_SpanUnsigned.j0 k a2 a3 true t714 t715 t716 t717) else ((span_UJoin.f t714 t715 t716 t717).bind fun bt732 => ((lockgateref04_UJoin.f t714 t715 t716 t717).bind fun bt734 => (lockgatelaw04_SpanUnsigned.j0 k a2 a3 (!(bt732.1 == bt734.1) || (!(bt732.2 == bt734.2))) t714 t715 t716 t717))))))))))))) = some r := H
 have A5 := Aside0.mk A50
 clear A50
 replace H := Option.bind_eq_some_iff.mp H
 obtain ⟨⟨t720, t721, t722⟩, A60, H⟩ := H
 replace H : ((lockgateref04_UMeet.f k t714 t715 t716 t717).bind fun bt724 => (if (!(t720 == bt724.1) || (!(t721 == bt724.2.1))) = true then (lockgatelaw04_SpanUnsigned.j0 k a2 a3 true t714 t715 t716 t717) else (if (t722 != bt724.2.2) = true then (lockgatelaw04_SpanUnsigned.j0 k a2 a3 true t714 t715 t716 t717) else ((span_UIn.f t714 t715 a3).bind fun t728 => ((lockgateref04_UIn.f t714 t715 a3).bind fun t729 => (if (t728 != t729) = true then (lockgatelaw04_SpanUnsigned.j0 k a2 a3 true t714 t715 t716 t717) else ((span_UWithin.f t714 t715 t716 t717).bind fun t730 => ((lockgateref04_UWithin.f t714 t715 t716 t717).bind fun t731 => (if (t730 != t731) = true then (lockgatelaw04_SpanUnsigned.j0 k a2 a3 true t714 t715 t716 t717) else ((span_UJoin.f t714 t715 t716 t717).bind fun bt732 => ((lockgateref04_UJoin.f t714 t715 t716 t717).bind fun bt734 => (lockgatelaw04_SpanUnsigned.j0 k a2 a3 (!(bt732.1 == bt734.1) || (!(bt732.2 == bt734.2))) t714 t715 t716 t717)))))))))))) = some r := H
 have A6 := Aside0.mk A60
 clear A60
 replace H := Option.bind_eq_some_iff.mp H
 obtain ⟨⟨t724, t725, t726⟩, A70, H⟩ := H
 replace H : (if (!(t720 == t724) || (!(t721 == t725))) = true then (lockgatelaw04_SpanUnsigned.j0 k a2 a3 true t714 t715 t716 t717) else (if (t722 != t726) = true then (lockgatelaw04_SpanUnsigned.j0 k a2 a3 true t714 t715 t716 t717) else ((span_UIn.f t714 t715 a3).bind fun t728 => ((lockgateref04_UIn.f t714 t715 a3).bind fun t729 => (if (t728 != t729) = true then (lockgatelaw04_SpanUnsigned.j0 k a2 a3 true t714 t715 t716 t717) else ((span_UWithin.f t714 t715 t716 t717).bind fun t730 => ((lockgateref04_UWithin.f t714 t715 t716 t717).bind fun t731 => (if (t730 != t731) = true then (lockgatelaw04_SpanUnsigned.j0 k a2 a3 true t714 t715 t716 t717) else ((span_UJoin.f t714 t715 t716 t717).bind fun bt732 => ((lockgateref04_UJoin.f t714 t715 t716 t717).bind fun bt734 => (lockgatelaw04_SpanUnsigned.j0 k a2 a3 (!(bt732.1 == bt734.1) || (!(bt732.2 == bt734.2))) t714 t715 t716 t717))))))))))) = some r := H
 have A7 := Aside0.mk A70
 clear A70
 have HC8 := Aside0.mk H
 clear H
 go_enter Try.func10, Try.ntmps10
 go_upto_region 4 with (first | ((with_reducible refine gate_dst (N := 4) rfl ?_); refine bx_ 4 #[.int .u64 a0_0, .int .u64 a0_1] 26 ?_; intro gb712 hg w9 BK712 hb; have GW712 := bg_ hg; have GE712 := GW712; replace HB := bl_ hb; clear hb hg) | ((with_reducible refine gate_dst (N := 5) rfl ?_); refine bx_ 5 #[.int .u64 a1_0, .int .u64 a1_1] 26 ?_; intro gb713 hg w10 BK713 hb; have GW713 := bg_ hg; have GE713 := GW713; have NB712_713 := bm_ hg BK712; have NB713_712 := bn_ hg BK712; replace BK712 := bb_ hb BK712; replace HB := bl_ hb; clear hb hg; have hnb11 := NB712_713.out; have hnc11 := NB713_712.out; have hcz12_0 := c0_ BK712; have hcz12_1 := c1_ BK712; have hfz12_0 := fz_ BK712 0; have hfz12_1 := fz_ BK712 1; have hcz13_0 := c0_ BK713; have hcz13_1 := c1_ BK713; have hfz13_0 := fz_ BK713 0; have hfz13_1 := fz_ BK713 1) | ((with_reducible refine gate_callee (f := 23) rfl ?_); refine goesL_ (some 18) rfl rfl Try.func23 (by kernel_rfl) rfl #[.agg #[.int .u64 a0_0, .int .u64 a0_1], .agg #[.int .u64 a1_0, .int .u64 a1_1]] rfl (by (try simp only [List.map_toArray, List.map_cons, List.map_nil]); first | done | rfl) ?_; (with_reducible refine (lockgatelaw04_Us.calls a0_0 a0_1 a1_0 a1_1 t714 t715 t716 t717 _ A5.out).mono ?_); rintro e w14 ⟨rfl, hb⟩; refine ⟨_, rfl, ?_⟩; replace BK712 := bb_ hb BK712; replace BK713 := bb_ hb BK713; replace HB := bl_ hb; (try clear hb); (try clear hb2); (try clear hk); (try clear hi)) | ((with_reducible refine gate_dst (N := 9) rfl ?_); refine bx_ 9 #[.int .u64 0, .int .u64 0] 26 ?_; intro gb718 hg w15 BK718 hb; have GW718 := bg_ hg; have GE718 := GW718; have NB712_718 := bm_ hg BK712; have NB718_712 := bn_ hg BK712; have NB713_718 := bm_ hg BK713; have NB718_713 := bn_ hg BK713; replace BK712 := bb_ hb BK712; replace BK713 := bb_ hb BK713; replace HB := bl_ hb; clear hb hg) | ((with_reducible refine gate_dst (N := 10) rfl ?_); refine bx_ 10 #[.int .u64 0, .int .u64 0] 26 ?_; intro gb719 hg w16 BK719 hb; have GW719 := bg_ hg; have GE719 := GW719; have NB712_719 := bm_ hg BK712; have NB719_712 := bn_ hg BK712; have NB713_719 := bm_ hg BK713; have NB719_713 := bn_ hg BK713; have NB718_719 := bm_ hg BK718; have NB719_718 := bn_ hg BK718; replace BK712 := bb_ hb BK712; replace BK713 := bb_ hb BK713; replace BK718 := bb_ hb BK718; replace HB := bl_ hb; clear hb hg; have hnb17 := NB718_712.out; have hnc17 := NB712_718.out; have hnb18 := NB718_713.out; have hnc18 := NB713_718.out; have hnb19 := NB718_719.out; have hnc19 := NB719_718.out; have hcz20_0 := c0_ BK718; have hcz20_1 := c1_ BK718; have hfz20_0 := fz_ BK718 0; have hfz20_1 := fz_ BK718 1; have hnb21 := NB719_712.out; have hnc21 := NB712_719.out; have hnb22 := NB719_713.out; have hnc22 := NB713_719.out; have hcz23_0 := c0_ BK719; have hcz23_1 := c1_ BK719; have hfz23_0 := fz_ BK719 0; have hfz23_1 := fz_ BK719 1) | ((with_reducible refine gate_callee (f := 24) rfl ?_); refine goesL_ (some 24) rfl rfl Try.func24 (by kernel_rfl) rfl #[.agg #[.int .u64 t714, .int .u64 t715], .agg #[.int .u64 t716, .int .u64 t717]] rfl (by (try simp only [List.map_toArray, List.map_cons, List.map_nil]); first | done | rfl) ?_; (with_reducible refine (span_UMeet.calls t714 t715 t716 t717 t720 t721 t722 _ A6.out).mono ?_); rintro e w24 ⟨rfl, hb⟩; refine ⟨_, rfl, ?_⟩; replace BK712 := Aside0.mk (blk_below (g := gb712) (o := .cells #[.int .u64 a0_0, .int .u64 a0_1] 26 (0, 0)) (by (with_reducible repeat (first | apply bN_ | apply bD_ | apply bA_)); refine blk_far ?_ NB712_719.out _; (with_reducible repeat (first | apply bN_ | apply bD_ | apply bA_)); refine blk_far ?_ NB712_719.out _; (with_reducible repeat (first | apply bN_ | apply bD_ | apply bA_)); refine blk_far ?_ NB712_718.out _; (with_reducible repeat (first | apply bN_ | apply bD_ | apply bA_)); refine blk_far ?_ NB712_718.out _; exact bk_) hb); replace BK713 := Aside0.mk (blk_below (g := gb713) (o := .cells #[.int .u64 a1_0, .int .u64 a1_1] 26 (0, 0)) (by (with_reducible repeat (first | apply bN_ | apply bD_ | apply bA_)); refine blk_far ?_ NB713_719.out _; (with_reducible repeat (first | apply bN_ | apply bD_ | apply bA_)); refine blk_far ?_ NB713_719.out _; (with_reducible repeat (first | apply bN_ | apply bD_ | apply bA_)); refine blk_far ?_ NB713_718.out _; (with_reducible repeat (first | apply bN_ | apply bD_ | apply bA_)); refine blk_far ?_ NB713_718.out _; exact bk_) hb); replace BK718 := Aside0.mk (blk_below (g := gb718) (o := .cells #[.int .u64 t714, .int .u64 t715] 26 (0, 0)) (by (with_reducible repeat (first | apply bN_ | apply bD_ | apply bA_)); refine blk_far ?_ NB718_719.out _; (with_reducible repeat (first | apply bN_ | apply bD_ | apply bA_)); refine blk_far ?_ NB718_719.out _; (with_reducible repeat (first | apply bN_ | apply bD_ | apply bA_)); refine blk_put (cs := #[.int .u64 t714, .int .u64 0]) ?_ 1 _ rfl; (with_reducible repeat (first | apply bN_ | apply bD_ | apply bA_)); refine blk_put (cs := #[.int .u64 0, .int .u64 0]) ?_ 0 _ rfl; exact bk_) hb); replace BK719 := Aside0.mk (blk_below (g := gb719) (o := .cells #[.int .u64 t716, .int .u64 t717] 26 (0, 0)) (by (with_reducible repeat (first | apply bN_ | apply bD_ | apply bA_)); refine blk_put (cs := #[.int .u64 t716, .int .u64 0]) ?_ 1 _ rfl; (with_reducible repeat (first | apply bN_ | apply bD_ | apply bA_)); refine blk_put (cs := #[.int .u64 0, .int .u64 0]) ?_ 0 _ rfl; (with_reducible repeat (first | apply bN_ | apply bD_ | apply bA_)); refine blk_far ?_ NB719_718.out _; (with_reducible repeat (first | apply bN_ | apply bD_ | apply bA_)); refine blk_far ?_ NB719_718.out _; exact bk_) hb); replace HB := bl_ hb; (try clear hb); (try clear hb2); (try clear hk); (try clear hi)) | ((with_reducible refine gate_dst (N := 11) rfl ?_); refine bx_ 11 #[.int .u64 0, .int .u64 0] 26 ?_; intro gb723 hg w25 BK723 hb; have GW723 := bg_ hg; have GE723 := GW723; have NB712_723 := bm_ hg BK712; have NB723_712 := bn_ hg BK712; have NB713_723 := bm_ hg BK713; have NB723_713 := bn_ hg BK713; have NB718_723 := bm_ hg BK718; have NB723_718 := bn_ hg BK718; have NB719_723 := bm_ hg BK719; have NB723_719 := bn_ hg BK719; replace BK712 := bb_ hb BK712; replace BK713 := bb_ hb BK713; replace BK718 := bb_ hb BK718; replace BK719 := bb_ hb BK719; replace HB := bl_ hb; clear hb hg; have hnb26 := NB723_712.out; have hnc26 := NB712_723.out; have hnb27 := NB723_713.out; have hnc27 := NB713_723.out; have hnb28 := NB723_718.out; have hnc28 := NB718_723.out; have hnb29 := NB723_719.out; have hnc29 := NB719_723.out; have hcz30_0 := c0_ BK723; have hcz30_1 := c1_ BK723; have hfz30_0 := fz_ BK723 0; have hfz30_1 := fz_ BK723 1; have hcz31_0 := c0_ BK718; have hcz31_1 := c1_ BK718; have hfz31_0 := fz_ BK718 0; have hfz31_1 := fz_ BK718 1; have hcz32_0 := c0_ BK719; have hcz32_1 := c1_ BK719; have hfz32_0 := fz_ BK719 0; have hfz32_1 := fz_ BK719 1) | ((with_reducible refine gate_callee (f := 56) rfl ?_); refine goesL_ (some 30) rfl rfl Try.func56 (by kernel_rfl) rfl #[.agg #[.int .u64 t714, .int .u64 t715], .agg #[.int .u64 t716, .int .u64 t717]] rfl (by (try simp only [List.map_toArray, List.map_cons, List.map_nil]); first | done | rfl) ?_; (with_reducible refine (lockgateref04_UMeet.calls k t714 t715 t716 t717 t724 t725 t726 _ A7.out).mono ?_); rintro e w33 ⟨rfl, hb⟩; refine ⟨_, rfl, ?_⟩; replace BK712 := Aside0.mk (blk_below (g := gb712) (o := .cells #[.int .u64 a0_0, .int .u64 a0_1] 26 (0, 0)) (by (with_reducible repeat (first | apply bN_ | apply bD_ | apply bA_)); refine blk_far ?_ NB712_723.out _; (with_reducible repeat (first | apply bN_ | apply bD_ | apply bA_)); refine blk_far ?_ NB712_723.out _; exact bk_) hb); replace BK713 := Aside0.mk (blk_below (g := gb713) (o := .cells #[.int .u64 a1_0, .int .u64 a1_1] 26 (0, 0)) (by (with_reducible repeat (first | apply bN_ | apply bD_ | apply bA_)); refine blk_far ?_ NB713_723.out _; (with_reducible repeat (first | apply bN_ | apply bD_ | apply bA_)); refine blk_far ?_ NB713_723.out _; exact bk_) hb); replace BK718 := Aside0.mk (blk_below (g := gb718) (o := .cells #[.int .u64 t714, .int .u64 t715] 26 (0, 0)) (by (with_reducible repeat (first | apply bN_ | apply bD_ | apply bA_)); refine blk_far ?_ NB718_723.out _; (with_reducible repeat (first | apply bN_ | apply bD_ | apply bA_)); refine blk_far ?_ NB718_723.out _; exact bk_) hb); replace BK719 := Aside0.mk (blk_below (g := gb719) (o := .cells #[.int .u64 t716, .int .u64 t717] 26 (0, 0)) (by (with_reducible repeat (first | apply bN_ | apply bD_ | apply bA_)); refine blk_far ?_ NB719_723.out _; (with_reducible repeat (first | apply bN_ | apply bD_ | apply bA_)); refine blk_far ?_ NB719_723.out _; exact bk_) hb); replace BK723 := Aside0.mk (blk_below (g := gb723) (o := .cells #[.int .u64 t720, .int .u64 t721] 26 (0, 0)) (by (with_reducible repeat (first | apply bN_ | apply bD_ | apply bA_)); refine blk_put (cs := #[.int .u64 t720, .int .u64 0]) ?_ 1 _ rfl; (with_reducible repeat (first | apply bN_ | apply bD_ | apply bA_)); refine blk_put (cs := #[.int .u64 0, .int .u64 0]) ?_ 0 _ rfl; exact bk_) hb); replace HB := bl_ hb; (try clear hb); (try clear hb2); (try clear hk); (try clear hi)) | ((with_reducible refine gate_dst (N := 13) rfl ?_); refine bx_ 13 #[.int .u64 0, .int .u64 0] 26 ?_; intro gb727 hg w34 BK727 hb; have GW727 := bg_ hg; have GE727 := GW727; have NB712_727 := bm_ hg BK712; have NB727_712 := bn_ hg BK712; have NB713_727 := bm_ hg BK713; have NB727_713 := bn_ hg BK713; have NB718_727 := bm_ hg BK718; have NB727_718 := bn_ hg BK718; have NB719_727 := bm_ hg BK719; have NB727_719 := bn_ hg BK719; have NB723_727 := bm_ hg BK723; have NB727_723 := bn_ hg BK723; replace BK712 := bb_ hb BK712; replace BK713 := bb_ hb BK713; replace BK718 := bb_ hb BK718; replace BK719 := bb_ hb BK719; replace BK723 := bb_ hb BK723; replace HB := bl_ hb; clear hb hg; have hnb35 := NB727_712.out; have hnc35 := NB712_727.out; have hnb36 := NB727_713.out; have hnc36 := NB713_727.out; have hnb37 := NB727_718.out; have hnc37 := NB718_727.out; have hnb38 := NB727_719.out; have hnc38 := NB719_727.out; have hnb39 := NB727_723.out; have hnc39 := NB723_727.out; have hcz40_0 := c0_ BK727; have hcz40_1 := c1_ BK727; have hfz40_0 := fz_ BK727 0; have hfz40_1 := fz_ BK727 1))
 (try simp only [Act.put, s1_, s2_, s3_])
 go_cut [67] (fun v67 wc => ∃ (kq : Nat) (x67_7 : Bool), v67 = .bool x67_7 ∧ Aside0 (lockgatelaw04_SpanUnsigned.j0 kq a2 a3 x67_7 t714 t715 t716 t717 = some r) ∧ Aside0 (kq ≤ k) ∧ Aside0 (wc.heap[gb712]? = some (.cells #[.int .u64 a0_0, .int .u64 a0_1] 26 (0, 0))) ∧ Aside0 (wc.heap[gb713]? = some (.cells #[.int .u64 a1_0, .int .u64 a1_1] 26 (0, 0))) ∧ Aside0 (wc.heap[gb718]? = some (.cells #[.int .u64 t714, .int .u64 t715] 26 (0, 0))) ∧ Aside0 (wc.heap[gb719]? = some (.cells #[.int .u64 t716, .int .u64 t717] 26 (0, 0))) ∧ Aside0 (wc.heap[gb723]? = some (.cells #[.int .u64 t720, .int .u64 t721] 26 (0, 0))) ∧ Aside0 (wc.heap[gb727]? = some (.cells #[.int .u64 t724, .int .u64 t725] 26 (0, 0))) ∧ Aside0 (Below w.heap.size w wc))
 case first =>
  have H := HC8.out
  clear HC8
  by_cases c41 : (!(t720 == t724) || (!(t721 == t725))) = true
  ·rw [if_pos c41] at H
   have c41b0 : (!(t720 == t724) || (!(t721 == t725))) = true := c41
   clear c41
   (first | rw [c41b0] | (simp only [i64_w, i32_w]; rw [c41b0]) | skip)
   exfalso
   cases k with
   | zero => rw [lockgatelaw04_SpanUnsigned.j0] at H; exact nomatch H
   | succ q_ => rw [lockgatelaw04_SpanUnsigned.j0, if_pos rfl] at H; exact absurd ((Option.some.inj H).trans HRT.out) (by decide)
  ·rw [if_neg c41] at H
   have c41b0 : (!(t720 == t724) || (!(t721 == t725))) = false := by simpa using c41
   clear c41
   (first | rw [c41b0] | (simp only [i64_w, i32_w]; rw [c41b0]) | skip)
   by_cases c42 : (t722 != t726) = true
   ·rw [if_pos c42] at H
    have c42b0 : (t722 != t726) = true := c42
    (try (have c42b1 : decide (t722 = t726) = false := by simpa using c42))
    (try (have c42b2 : (t722 == t726) = false := by simpa using c42))
    (try (have c42b3 : ¬ (t722 = t726) := by simpa using c42))
    clear c42
    exfalso
    cases k with
    | zero => rw [lockgatelaw04_SpanUnsigned.j0] at H; exact nomatch H
    | succ q_ => rw [lockgatelaw04_SpanUnsigned.j0, if_pos rfl] at H; exact absurd ((Option.some.inj H).trans HRT.out) (by decide)
   ·rw [if_neg c42] at H
    have c42b0 : (t722 != t726) = false := by simpa using c42
    (try (have c42b1 : decide (t722 = t726) = true := by simpa using c42))
    (try (have c42b2 : (t722 == t726) = true := by simpa using c42))
    clear c42
    replace H := Option.bind_eq_some_iff.mp H
    obtain ⟨t728, A430, H⟩ := H
    replace H : ((lockgateref04_UIn.f t714 t715 a3).bind fun t729 => (if (t728 != t729) = true then (lockgatelaw04_SpanUnsigned.j0 k a2 a3 true t714 t715 t716 t717) else ((span_UWithin.f t714 t715 t716 t717).bind fun t730 => ((lockgateref04_UWithin.f t714 t715 t716 t717).bind fun t731 => (if (t730 != t731) = true then (lockgatelaw04_SpanUnsigned.j0 k a2 a3 true t714 t715 t716 t717) else ((span_UJoin.f t714 t715 t716 t717).bind fun bt732 => ((lockgateref04_UJoin.f t714 t715 t716 t717).bind fun bt734 => (lockgatelaw04_SpanUnsigned.j0 k a2 a3 (!(bt732.1 == bt734.1) || (!(bt732.2 == bt734.2))) t714 t715 t716 t717)))))))) = some r := H
    have A43 := Aside0.mk A430
    clear A430
    replace H := Option.bind_eq_some_iff.mp H
    obtain ⟨t729, A440, H⟩ := H
    replace H : (if (t728 != t729) = true then (lockgatelaw04_SpanUnsigned.j0 k a2 a3 true t714 t715 t716 t717) else ((span_UWithin.f t714 t715 t716 t717).bind fun t730 => ((lockgateref04_UWithin.f t714 t715 t716 t717).bind fun t731 => (if (t730 != t731) = true then (lockgatelaw04_SpanUnsigned.j0 k a2 a3 true t714 t715 t716 t717) else ((span_UJoin.f t714 t715 t716 t717).bind fun bt732 => ((lockgateref04_UJoin.f t714 t715 t716 t717).bind fun bt734 => (lockgatelaw04_SpanUnsigned.j0 k a2 a3 (!(bt732.1 == bt734.1) || (!(bt732.2 == bt734.2))) t714 t715 t716 t717))))))) = some r := H
    have A44 := Aside0.mk A440
    clear A440
    by_cases c45 : (t728 != t729) = true
    ·rw [if_pos c45] at H
     have c45b0 : (t728 != t729) = true := c45
     (try (have c45b1 : decide (t728 = t729) = false := by simpa using c45))
     (try (have c45b2 : (t728 == t729) = false := by simpa using c45))
     (try (have c45b3 : ¬ (t728 = t729) := by simpa using c45))
     clear c45
     exfalso
     cases k with
     | zero => rw [lockgatelaw04_SpanUnsigned.j0] at H; exact nomatch H
     | succ q_ => rw [lockgatelaw04_SpanUnsigned.j0, if_pos rfl] at H; exact absurd ((Option.some.inj H).trans HRT.out) (by decide)
    ·rw [if_neg c45] at H
     have c45b0 : (t728 != t729) = false := by simpa using c45
     (try (have c45b1 : decide (t728 = t729) = true := by simpa using c45))
     (try (have c45b2 : (t728 == t729) = true := by simpa using c45))
     clear c45
     replace H := Option.bind_eq_some_iff.mp H
     obtain ⟨t730, A460, H⟩ := H
     replace H : ((lockgateref04_UWithin.f t714 t715 t716 t717).bind fun t731 => (if (t730 != t731) = true then (lockgatelaw04_SpanUnsigned.j0 k a2 a3 true t714 t715 t716 t717) else ((span_UJoin.f t714 t715 t716 t717).bind fun bt732 => ((lockgateref04_UJoin.f t714 t715 t716 t717).bind fun bt734 => (lockgatelaw04_SpanUnsigned.j0 k a2 a3 (!(bt732.1 == bt734.1) || (!(bt732.2 == bt734.2))) t714 t715 t716 t717))))) = some r := H
     have A46 := Aside0.mk A460
     clear A460
     replace H := Option.bind_eq_some_iff.mp H
     obtain ⟨t731, A470, H⟩ := H
     replace H : (if (t730 != t731) = true then (lockgatelaw04_SpanUnsigned.j0 k a2 a3 true t714 t715 t716 t717) else ((span_UJoin.f t714 t715 t716 t717).bind fun bt732 => ((lockgateref04_UJoin.f t714 t715 t716 t717).bind fun bt734 => (lockgatelaw04_SpanUnsigned.j0 k a2 a3 (!(bt732.1 == bt734.1) || (!(bt732.2 == bt734.2))) t714 t715 t716 t717)))) = some r := H
     have A47 := Aside0.mk A470
     clear A470
     by_cases c48 : (t730 != t731) = true
     ·rw [if_pos c48] at H
      have c48b0 : (t730 != t731) = true := c48
      (try (have c48b1 : decide (t730 = t731) = false := by simpa using c48))
      (try (have c48b2 : (t730 == t731) = false := by simpa using c48))
      (try (have c48b3 : ¬ (t730 = t731) := by simpa using c48))
      clear c48
      exfalso
      cases k with
      | zero => rw [lockgatelaw04_SpanUnsigned.j0] at H; exact nomatch H
      | succ q_ => rw [lockgatelaw04_SpanUnsigned.j0, if_pos rfl] at H; exact absurd ((Option.some.inj H).trans HRT.out) (by decide)
     ·rw [if_neg c48] at H
      have c48b0 : (t730 != t731) = false := by simpa using c48
      (try (have c48b1 : decide (t730 = t731) = true := by simpa using c48))
      (try (have c48b2 : (t730 == t731) = true := by simpa using c48))
      clear c48
      replace H := Option.bind_eq_some_iff.mp H
      obtain ⟨⟨t732, t733⟩, A490, H⟩ := H
      replace H : ((lockgateref04_UJoin.f t714 t715 t716 t717).bind fun bt734 => (lockgatelaw04_SpanUnsigned.j0 k a2 a3 (!(t732 == bt734.1) || (!(t733 == bt734.2))) t714 t715 t716 t717)) = some r := H
      have A49 := Aside0.mk A490
      clear A490
      replace H := Option.bind_eq_some_iff.mp H
      obtain ⟨⟨t734, t735⟩, A500, H⟩ := H
      replace H : (lockgatelaw04_SpanUnsigned.j0 k a2 a3 (!(t732 == t734) || (!(t733 == t735))) t714 t715 t716 t717) = some r := H
      have A50 := Aside0.mk A500
      clear A500
      have H' := Aside0.mk H
      clear H
      try go_wp2
      have n0_ : Aside0 (((w34.setCell ⟨gb727, 0, none⟩ (.int .u64 t724)).setCell ⟨gb727, 1, none⟩ (.int .u64 t725)).heap[gb712]? = some (.cells #[.int .u64 a0_0, .int .u64 a0_1] 26 (0, 0))) := ⟨by (with_reducible repeat (first | apply bN_ | apply bD_ | apply bA_)); refine blk_far ?_ NB712_727.out _; (with_reducible repeat (first | apply bN_ | apply bD_ | apply bA_)); refine blk_far ?_ NB712_727.out _; exact bk_⟩
      have n1_ : Aside0 (((w34.setCell ⟨gb727, 0, none⟩ (.int .u64 t724)).setCell ⟨gb727, 1, none⟩ (.int .u64 t725)).heap[gb713]? = some (.cells #[.int .u64 a1_0, .int .u64 a1_1] 26 (0, 0))) := ⟨by (with_reducible repeat (first | apply bN_ | apply bD_ | apply bA_)); refine blk_far ?_ NB713_727.out _; (with_reducible repeat (first | apply bN_ | apply bD_ | apply bA_)); refine blk_far ?_ NB713_727.out _; exact bk_⟩
      have n2_ : Aside0 (((w34.setCell ⟨gb727, 0, none⟩ (.int .u64 t724)).setCell ⟨gb727, 1, none⟩ (.int .u64 t725)).heap[gb718]? = some (.cells #[.int .u64 t714, .int .u64 t715] 26 (0, 0))) := ⟨by (with_reducible repeat (first | apply bN_ | apply bD_ | apply bA_)); refine blk_far ?_ NB718_727.out _; (with_reducible repeat (first | apply bN_ | apply bD_ | apply bA_)); refine blk_far ?_ NB718_727.out _; exact bk_⟩
      have n3_ : Aside0 (((w34.setCell ⟨gb727, 0, none⟩ (.int .u64 t724)).setCell ⟨gb727, 1, none⟩ (.int .u64 t725)).heap[gb719]? = some (.cells #[.int .u64 t716, .int .u64 t717] 26 (0, 0))) := ⟨by (with_reducible repeat (first | apply bN_ | apply bD_ | apply bA_)); refine blk_far ?_ NB719_727.out _; (with_reducible repeat (first | apply bN_ | apply bD_ | apply bA_)); refine blk_far ?_ NB719_727.out _; exact bk_⟩
      have n4_ : Aside0 (((w34.setCell ⟨gb727, 0, none⟩ (.int .u64 t724)).setCell ⟨gb727, 1, none⟩ (.int .u64 t725)).heap[gb723]? = some (.cells #[.int .u64 t720, .int .u64 t721] 26 (0, 0))) := ⟨by (with_reducible repeat (first | apply bN_ | apply bD_ | apply bA_)); refine blk_far ?_ NB723_727.out _; (with_reducible repeat (first | apply bN_ | apply bD_ | apply bA_)); refine blk_far ?_ NB723_727.out _; exact bk_⟩
      have n5_ : Aside0 (((w34.setCell ⟨gb727, 0, none⟩ (.int .u64 t724)).setCell ⟨gb727, 1, none⟩ (.int .u64 t725)).heap[gb727]? = some (.cells #[.int .u64 t724, .int .u64 t725] 26 (0, 0))) := ⟨by (with_reducible repeat (first | apply bN_ | apply bD_ | apply bA_)); refine blk_put (cs := #[.int .u64 t724, .int .u64 0]) ?_ 1 _ rfl; (with_reducible repeat (first | apply bN_ | apply bD_ | apply bA_)); refine blk_put (cs := #[.int .u64 0, .int .u64 0]) ?_ 0 _ rfl; exact bk_⟩
      have n6_ : Aside0 (Below w.heap.size w ((w34.setCell ⟨gb727, 0, none⟩ (.int .u64 t724)).setCell ⟨gb727, 1, none⟩ (.int .u64 t725))) := ⟨by repeat (first | (with_reducible first | exact HB.out | apply lA_ | apply lN_ | apply lD_ | refine lS_ ?_ GE712.out | refine lS_ ?_ GE713.out | refine lS_ ?_ GE718.out | refine lS_ ?_ GE719.out | refine lS_ ?_ GE723.out | refine lS_ ?_ GE727.out) | exact HB.out)⟩
      (try clear BK712)
      (try clear BK713)
      (try clear BK718)
      (try clear BK719)
      (try clear BK723)
      (try clear BK727)
      (try clear HB)
      generalize ((w34.setCell ⟨gb727, 0, none⟩ (.int .u64 t724)).setCell ⟨gb727, 1, none⟩ (.int .u64 t725)) = w51 at n0_ n1_ n2_ n3_ n4_ n5_ n6_ ⊢
      have BK712 := n0_
      have BK713 := n1_
      have BK718 := n2_
      have BK719 := n3_
      have BK723 := n4_
      have BK727 := n5_
      have HB := n6_
      clear n0_ n1_ n2_ n3_ n4_ n5_ n6_
      replace BK712 := Aside0.mk (blk_drew BK712.out)
      replace BK713 := Aside0.mk (blk_drew BK713.out)
      replace BK718 := Aside0.mk (blk_drew BK718.out)
      replace BK719 := Aside0.mk (blk_drew BK719.out)
      replace BK723 := Aside0.mk (blk_drew BK723.out)
      replace BK727 := Aside0.mk (blk_drew BK727.out)
      replace HB := Aside0.mk (below_drew1 HB.out)
      refine start_ (n := 35) (S := fun w' => w'.cell? ⟨gb723, 0, none⟩ = some (.int .u64 t720) ∧ w'.cell? ⟨gb723, 1, none⟩ = some (.int .u64 t721) ∧ w'.cell? ⟨gb727, 0, none⟩ = some (.int .u64 t724) ∧ w'.cell? ⟨gb727, 1, none⟩ = some (.int .u64 t725) ∧ w'.cell? ⟨gb718, 0, none⟩ = some (.int .u64 t714) ∧ w'.cell? ⟨gb718, 1, none⟩ = some (.int .u64 t715) ∧ w'.cell? ⟨gb719, 0, none⟩ = some (.int .u64 t716) ∧ w'.cell? ⟨gb719, 1, none⟩ = some (.int .u64 t717)) (ds := []) #[n_,n_,n_,n_,n_,n_,n_,n_,n_,n_,n_,n_,n_,n_,n_,n_,n_,n_,n_,n_,n_,n_,n_,n_,n_,n_,n_,n_,n_,n_,n_,n_,n_,n_,n_] (by kernel_rfl) rfl rfl ⟨c0_ BK723, c1_ BK723, c0_ BK727, c1_ BK727, c0_ BK718, c1_ BK718, c0_ BK719, c1_ BK719⟩ (fun hHeld => ?_); refine with_tabW lockgatelaw04_SpanUnsigned.tab4 lockgatelaw04_SpanUnsigned.bits4 (fun HT_ HW_ => ?_)
      generalize w51.drew = w52 at BK712 BK713 BK718 BK719 BK723 BK727 HB hHeld ⊢
      refine tq2_ 0 33 #[y_,n_,n_,n_,n_,n_,n_,n_,n_,n_,n_,n_,n_,n_,n_,n_,n_,n_,n_,n_,n_,n_,n_,n_,n_,n_,n_,n_,n_,n_,n_,n_,n_,n_,n_] hHeld ?_
      refine tq2_ 1 34 #[y_,y_,n_,n_,n_,n_,n_,n_,n_,n_,n_,n_,n_,n_,n_,n_,n_,n_,n_,n_,n_,n_,n_,n_,n_,n_,n_,n_,n_,n_,n_,n_,n_,n_,n_] hHeld ?_
      refine pq_ 2 35 #[y_,y_,y_,n_,n_,n_,n_,n_,n_,n_,n_,n_,n_,n_,n_,n_,n_,n_,n_,n_,n_,n_,n_,n_,n_,n_,n_,n_,n_,n_,n_,n_,n_,n_,n_] ?_
      refine pq_ 3 36 #[y_,y_,y_,y_,n_,n_,n_,n_,n_,n_,n_,n_,n_,n_,n_,n_,n_,n_,n_,n_,n_,n_,n_,n_,n_,n_,n_,n_,n_,n_,n_,n_,n_,n_,n_] ?_
      refine pq_ 4 37 #[y_,y_,y_,y_,y_,n_,n_,n_,n_,n_,n_,n_,n_,n_,n_,n_,n_,n_,n_,n_,n_,n_,n_,n_,n_,n_,n_,n_,n_,n_,n_,n_,n_,n_,n_] ?_
      refine pq_ 5 38 #[y_,y_,y_,y_,y_,y_,n_,n_,n_,n_,n_,n_,n_,n_,n_,n_,n_,n_,n_,n_,n_,n_,n_,n_,n_,n_,n_,n_,n_,n_,n_,n_,n_,n_,n_] ?_
      refine pq_ 6 39 #[y_,y_,y_,y_,y_,y_,y_,n_,n_,n_,n_,n_,n_,n_,n_,n_,n_,n_,n_,n_,n_,n_,n_,n_,n_,n_,n_,n_,n_,n_,n_,n_,n_,n_,n_] ?_
      refine pq_ 7 40 #[y_,y_,y_,y_,y_,y_,y_,y_,n_,n_,n_,n_,n_,n_,n_,n_,n_,n_,n_,n_,n_,n_,n_,n_,n_,n_,n_,n_,n_,n_,n_,n_,n_,n_,n_] ?_
      refine pq_ 8 41 #[y_,y_,y_,y_,y_,y_,y_,y_,y_,n_,n_,n_,n_,n_,n_,n_,n_,n_,n_,n_,n_,n_,n_,n_,n_,n_,n_,n_,n_,n_,n_,n_,n_,n_,n_] ?_
      refine pq_ 10 43 #[y_,y_,y_,y_,y_,y_,y_,y_,y_,n_,y_,n_,n_,n_,n_,n_,n_,n_,n_,n_,n_,n_,n_,n_,n_,n_,n_,n_,n_,n_,n_,n_,n_,n_,n_] ?_
      refine pq_ 13 46 #[y_,y_,y_,y_,y_,y_,y_,y_,y_,n_,y_,n_,n_,y_,n_,n_,n_,n_,n_,n_,n_,n_,n_,n_,n_,n_,n_,n_,n_,n_,n_,n_,n_,n_,n_] ?_
      refine tq2_ 9 42 #[y_,y_,y_,y_,y_,y_,y_,y_,y_,y_,y_,n_,n_,y_,n_,n_,n_,n_,n_,n_,n_,n_,n_,n_,n_,n_,n_,n_,n_,n_,n_,n_,n_,n_,n_] hHeld ?_
      refine tq2_ 12 45 #[y_,y_,y_,y_,y_,y_,y_,y_,y_,y_,y_,n_,y_,y_,n_,n_,n_,n_,n_,n_,n_,n_,n_,n_,n_,n_,n_,n_,n_,n_,n_,n_,n_,n_,n_] hHeld ?_
      refine one_ (i := 11) (N := some 44) #[y_,y_,y_,y_,y_,y_,y_,y_,y_,y_,y_,y_,y_,y_,n_,n_,n_,n_,n_,n_,n_,n_,n_,n_,n_,n_,n_,n_,n_,n_,n_,n_,n_,n_,n_] rfl rfl (one_of HT_.out (by kernel_rfl)) (by decide) (fun K hK => ?_)
      refine goes_ Try.func15 (by kernel_rfl) rfl #[.agg #[.int .u64 t714, .int .u64 t715], .int .u64 a3] (by rfl) rfl rfl (by (try simp only [List.map_toArray, List.map_cons, List.map_nil]); first | done | rfl) ?_
      with_reducible refine (span_UIn.calls t714 t715 a3 t728 _ A43.out).mono ?_
      rintro e w53 ⟨rfl, hb⟩
      refine ⟨_, rfl, ?_⟩
      replace BK712 := bb_ hb BK712
      replace BK713 := bb_ hb BK713
      replace BK718 := bb_ hb BK718
      replace BK719 := bb_ hb BK719
      replace BK723 := bb_ hb BK723
      replace BK727 := bb_ hb BK727
      replace HB := bl_ hb
      try clear hb
      refine hK.out _ _ ⟨c0_ BK723, c1_ BK723, c0_ BK727, c1_ BK727, c0_ BK718, c1_ BK718, c0_ BK719, c1_ BK719⟩ (fun hHeld => ?_)
      clear hK K
      refine norm_ (a' := ?_) ?_ ?_
      rotate_left
      ·show Act.put _ (some 44) _ = _
       simp only [Act.put, s1_, s2_, s3_, i64_w, i32_w]
       rfl
      refine one_ (i := 14) (N := some 47) #[y_,y_,y_,y_,y_,y_,y_,y_,y_,y_,y_,y_,y_,y_,y_,n_,n_,n_,n_,n_,n_,n_,n_,n_,n_,n_,n_,n_,n_,n_,n_,n_,n_,n_,n_] rfl rfl (one_of HT_.out (by kernel_rfl)) (by decide) (fun K hK => ?_)
      refine goes_ Try.func57 (by kernel_rfl) rfl #[.agg #[.int .u64 t714, .int .u64 t715], .int .u64 a3] (by rfl) rfl rfl (by (try simp only [List.map_toArray, List.map_cons, List.map_nil]); first | done | rfl) ?_
      with_reducible refine (lockgateref04_UIn.calls t714 t715 a3 t729 _ A44.out).mono ?_
      rintro e w54 ⟨rfl, hb⟩
      refine ⟨_, rfl, ?_⟩
      replace BK712 := bb_ hb BK712
      replace BK713 := bb_ hb BK713
      replace BK718 := bb_ hb BK718
      replace BK719 := bb_ hb BK719
      replace BK723 := bb_ hb BK723
      replace BK727 := bb_ hb BK727
      replace HB := bl_ hb
      try clear hb
      refine hK.out _ _ ⟨c0_ BK723, c1_ BK723, c0_ BK727, c1_ BK727, c0_ BK718, c1_ BK718, c0_ BK719, c1_ BK719⟩ (fun hHeld => ?_)
      clear hK K
      refine norm_ (a' := ?_) ?_ ?_
      rotate_left
      ·show Act.put _ (some 47) _ = _
       simp only [Act.put, s1_, s2_, s3_, i64_w, i32_w]
       rfl
      refine pq_ 15 48 #[y_,y_,y_,y_,y_,y_,y_,y_,y_,y_,y_,y_,y_,y_,y_,y_,n_,n_,n_,n_,n_,n_,n_,n_,n_,n_,n_,n_,n_,n_,n_,n_,n_,n_,n_] ?_
      refine pq_ 16 49 #[y_,y_,y_,y_,y_,y_,y_,y_,y_,y_,y_,y_,y_,y_,y_,y_,y_,n_,n_,n_,n_,n_,n_,n_,n_,n_,n_,n_,n_,n_,n_,n_,n_,n_,n_] ?_
      refine pq_ 17 50 #[y_,y_,y_,y_,y_,y_,y_,y_,y_,y_,y_,y_,y_,y_,y_,y_,y_,y_,n_,n_,n_,n_,n_,n_,n_,n_,n_,n_,n_,n_,n_,n_,n_,n_,n_] ?_
      refine tq2_ 18 51 #[y_,y_,y_,y_,y_,y_,y_,y_,y_,y_,y_,y_,y_,y_,y_,y_,y_,y_,y_,n_,n_,n_,n_,n_,n_,n_,n_,n_,n_,n_,n_,n_,n_,n_,n_] hHeld ?_
      refine tq2_ 19 52 #[y_,y_,y_,y_,y_,y_,y_,y_,y_,y_,y_,y_,y_,y_,y_,y_,y_,y_,y_,y_,n_,n_,n_,n_,n_,n_,n_,n_,n_,n_,n_,n_,n_,n_,n_] hHeld ?_
      refine tq2_ 21 54 #[y_,y_,y_,y_,y_,y_,y_,y_,y_,y_,y_,y_,y_,y_,y_,y_,y_,y_,y_,y_,n_,y_,n_,n_,n_,n_,n_,n_,n_,n_,n_,n_,n_,n_,n_] hHeld ?_
      refine tq2_ 22 55 #[y_,y_,y_,y_,y_,y_,y_,y_,y_,y_,y_,y_,y_,y_,y_,y_,y_,y_,y_,y_,n_,y_,y_,n_,n_,n_,n_,n_,n_,n_,n_,n_,n_,n_,n_] hHeld ?_
      refine one_ (i := 20) (N := some 53) #[y_,y_,y_,y_,y_,y_,y_,y_,y_,y_,y_,y_,y_,y_,y_,y_,y_,y_,y_,y_,y_,y_,y_,n_,n_,n_,n_,n_,n_,n_,n_,n_,n_,n_,n_] rfl rfl (one_of HT_.out (by kernel_rfl)) (by decide) (fun K hK => ?_)
      refine goes_ Try.func26 (by kernel_rfl) rfl #[.agg #[.int .u64 t714, .int .u64 t715], .agg #[.int .u64 t716, .int .u64 t717]] (by rfl) rfl rfl (by (try simp only [List.map_toArray, List.map_cons, List.map_nil]); first | done | rfl) ?_
      with_reducible refine (span_UWithin.calls t714 t715 t716 t717 t730 _ A46.out).mono ?_
      rintro e w55 ⟨rfl, hb⟩
      refine ⟨_, rfl, ?_⟩
      replace BK712 := bb_ hb BK712
      replace BK713 := bb_ hb BK713
      replace BK718 := bb_ hb BK718
      replace BK719 := bb_ hb BK719
      replace BK723 := bb_ hb BK723
      replace BK727 := bb_ hb BK727
      replace HB := bl_ hb
      try clear hb
      refine hK.out _ _ ⟨c0_ BK723, c1_ BK723, c0_ BK727, c1_ BK727, c0_ BK718, c1_ BK718, c0_ BK719, c1_ BK719⟩ (fun hHeld => ?_)
      clear hK K
      refine norm_ (a' := ?_) ?_ ?_
      rotate_left
      ·show Act.put _ (some 53) _ = _
       simp only [Act.put, s1_, s2_, s3_, i64_w, i32_w]
       rfl
      refine one_ (i := 23) (N := some 56) #[y_,y_,y_,y_,y_,y_,y_,y_,y_,y_,y_,y_,y_,y_,y_,y_,y_,y_,y_,y_,y_,y_,y_,y_,n_,n_,n_,n_,n_,n_,n_,n_,n_,n_,n_] rfl rfl (one_of HT_.out (by kernel_rfl)) (by decide) (fun K hK => ?_)
      refine goes_ Try.func58 (by kernel_rfl) rfl #[.agg #[.int .u64 t714, .int .u64 t715], .agg #[.int .u64 t716, .int .u64 t717]] (by rfl) rfl rfl (by (try simp only [List.map_toArray, List.map_cons, List.map_nil]); first | done | rfl) ?_
      with_reducible refine (lockgateref04_UWithin.calls t714 t715 t716 t717 t731 _ A47.out).mono ?_
      rintro e w56 ⟨rfl, hb⟩
      refine ⟨_, rfl, ?_⟩
      replace BK712 := bb_ hb BK712
      replace BK713 := bb_ hb BK713
      replace BK718 := bb_ hb BK718
      replace BK719 := bb_ hb BK719
      replace BK723 := bb_ hb BK723
      replace BK727 := bb_ hb BK727
      replace HB := bl_ hb
      try clear hb
      refine hK.out _ _ ⟨c0_ BK723, c1_ BK723, c0_ BK727, c1_ BK727, c0_ BK718, c1_ BK718, c0_ BK719, c1_ BK719⟩ (fun hHeld => ?_)
      clear hK K
      refine norm_ (a' := ?_) ?_ ?_
      rotate_left
      ·show Act.put _ (some 56) _ = _
       simp only [Act.put, s1_, s2_, s3_, i64_w, i32_w]
       rfl
      refine pq_ 24 57 #[y_,y_,y_,y_,y_,y_,y_,y_,y_,y_,y_,y_,y_,y_,y_,y_,y_,y_,y_,y_,y_,y_,y_,y_,y_,n_,n_,n_,n_,n_,n_,n_,n_,n_,n_] ?_
      refine pq_ 25 58 #[y_,y_,y_,y_,y_,y_,y_,y_,y_,y_,y_,y_,y_,y_,y_,y_,y_,y_,y_,y_,y_,y_,y_,y_,y_,y_,n_,n_,n_,n_,n_,n_,n_,n_,n_] ?_
      refine pq_ 26 59 #[y_,y_,y_,y_,y_,y_,y_,y_,y_,y_,y_,y_,y_,y_,y_,y_,y_,y_,y_,y_,y_,y_,y_,y_,y_,y_,y_,n_,n_,n_,n_,n_,n_,n_,n_] ?_
      refine tq2_ 27 60 #[y_,y_,y_,y_,y_,y_,y_,y_,y_,y_,y_,y_,y_,y_,y_,y_,y_,y_,y_,y_,y_,y_,y_,y_,y_,y_,y_,y_,n_,n_,n_,n_,n_,n_,n_] hHeld ?_
      refine tq2_ 28 61 #[y_,y_,y_,y_,y_,y_,y_,y_,y_,y_,y_,y_,y_,y_,y_,y_,y_,y_,y_,y_,y_,y_,y_,y_,y_,y_,y_,y_,y_,n_,n_,n_,n_,n_,n_] hHeld ?_
      refine tq2_ 30 63 #[y_,y_,y_,y_,y_,y_,y_,y_,y_,y_,y_,y_,y_,y_,y_,y_,y_,y_,y_,y_,y_,y_,y_,y_,y_,y_,y_,y_,y_,n_,y_,n_,n_,n_,n_] hHeld ?_
      refine tq2_ 31 64 #[y_,y_,y_,y_,y_,y_,y_,y_,y_,y_,y_,y_,y_,y_,y_,y_,y_,y_,y_,y_,y_,y_,y_,y_,y_,y_,y_,y_,y_,n_,y_,y_,n_,n_,n_] hHeld ?_
      refine one_ (i := 29) (N := some 62) #[y_,y_,y_,y_,y_,y_,y_,y_,y_,y_,y_,y_,y_,y_,y_,y_,y_,y_,y_,y_,y_,y_,y_,y_,y_,y_,y_,y_,y_,y_,y_,y_,n_,n_,n_] rfl rfl (one_of HT_.out (by kernel_rfl)) (by decide) (fun K hK => ?_)
      refine goes_ Try.func25 (by kernel_rfl) rfl #[.agg #[.int .u64 t714, .int .u64 t715], .agg #[.int .u64 t716, .int .u64 t717]] (by rfl) rfl rfl (by (try simp only [List.map_toArray, List.map_cons, List.map_nil]); first | done | rfl) ?_
      with_reducible refine (span_UJoin.calls t714 t715 t716 t717 t732 t733 _ A49.out).mono ?_
      rintro e w57 ⟨rfl, hb⟩
      refine ⟨_, rfl, ?_⟩
      replace BK712 := bb_ hb BK712
      replace BK713 := bb_ hb BK713
      replace BK718 := bb_ hb BK718
      replace BK719 := bb_ hb BK719
      replace BK723 := bb_ hb BK723
      replace BK727 := bb_ hb BK727
      replace HB := bl_ hb
      try clear hb
      refine hK.out _ _ ⟨c0_ BK723, c1_ BK723, c0_ BK727, c1_ BK727, c0_ BK718, c1_ BK718, c0_ BK719, c1_ BK719⟩ (fun hHeld => ?_)
      clear hK K
      refine norm_ (a' := ?_) ?_ ?_
      rotate_left
      ·show Act.put _ (some 62) _ = _
       simp only [Act.put, s1_, s2_, s3_, i64_w, i32_w]
       rfl
      refine one_ (i := 32) (N := some 65) #[y_,y_,y_,y_,y_,y_,y_,y_,y_,y_,y_,y_,y_,y_,y_,y_,y_,y_,y_,y_,y_,y_,y_,y_,y_,y_,y_,y_,y_,y_,y_,y_,y_,n_,n_] rfl rfl (one_of HT_.out (by kernel_rfl)) (by decide) (fun K hK => ?_)
      refine goes_ Try.func59 (by kernel_rfl) rfl #[.agg #[.int .u64 t714, .int .u64 t715], .agg #[.int .u64 t716, .int .u64 t717]] (by rfl) rfl rfl (by (try simp only [List.map_toArray, List.map_cons, List.map_nil]); first | done | rfl) ?_
      with_reducible refine (lockgateref04_UJoin.calls t714 t715 t716 t717 t734 t735 _ A50.out).mono ?_
      rintro e w58 ⟨rfl, hb⟩
      refine ⟨_, rfl, ?_⟩
      replace BK712 := bb_ hb BK712
      replace BK713 := bb_ hb BK713
      replace BK718 := bb_ hb BK718
      replace BK719 := bb_ hb BK719
      replace BK723 := bb_ hb BK723
      replace BK727 := bb_ hb BK727
      replace HB := bl_ hb
      try clear hb
      refine hK.out _ _ ⟨c0_ BK723, c1_ BK723, c0_ BK727, c1_ BK727, c0_ BK718, c1_ BK718, c0_ BK719, c1_ BK719⟩ (fun hHeld => ?_)
      clear hK K
      refine norm_ (a' := ?_) ?_ ?_
      rotate_left
      ·show Act.put _ (some 65) _ = _
       simp only [Act.put, s1_, s2_, s3_, i64_w, i32_w]
       rfl
      refine pq_ 33 66 #[y_,y_,y_,y_,y_,y_,y_,y_,y_,y_,y_,y_,y_,y_,y_,y_,y_,y_,y_,y_,y_,y_,y_,y_,y_,y_,y_,y_,y_,y_,y_,y_,y_,y_,n_] ?_
      refine pq_ 34 67 #[y_,y_,y_,y_,y_,y_,y_,y_,y_,y_,y_,y_,y_,y_,y_,y_,y_,y_,y_,y_,y_,y_,y_,y_,y_,y_,y_,y_,y_,y_,y_,y_,y_,y_,y_] ?_
      refine done_ (done_of HT_.out (by kernel_rfl)) ?_
      try go_wp2
      go_meet
      case rel => exact ⟨_, ((!(t732 == t734) || (!(t733 == t735)))), (by first | rfl | (simp; done) | (simp [*]; done)), H', ⟨by first | omega | exact Nat.le_refl _⟩, ⟨by exact bk_⟩, ⟨by exact bk_⟩, ⟨by exact bk_⟩, ⟨by exact bk_⟩, ⟨by exact bk_⟩, ⟨by exact bk_⟩, ⟨by repeat (first | (with_reducible first | exact HB.out | apply lA_ | apply lN_ | apply lD_ | refine lS_ ?_ GE712.out | refine lS_ ?_ GE713.out | refine lS_ ?_ GE718.out | refine lS_ ?_ GE719.out | refine lS_ ?_ GE723.out | refine lS_ ?_ GE727.out) | exact HB.out)⟩⟩
 case rest =>
  clear HC8
  try clear c1
  try clear c2
  try clear p2
  try clear c4
  try clear c5
  try clear c15
  try clear c25
  try clear c26
  try clear c41
  try clear c41b0
  try clear c42
  try clear c42b0
  try clear c42b1
  try clear c42b2
  try clear c45
  try clear c45b0
  try clear c45b1
  try clear c45b2
  try clear c48
  try clear c48b0
  try clear c48b1
  try clear c48b2
  try clear c57
  try clear c58
  obtain ⟨kq, x67_7, rfl, HA, HJ7, BK712, BK713, BK718, BK719, BK723, BK727, HB⟩ := hcut
  cases kq with
  | zero => exact absurd HA.out (by simp [lockgatelaw04_SpanUnsigned.j0])
  | succ kj7 =>
   have H := HA.out
   clear HA
   simp only [lockgatelaw04_SpanUnsigned.j0] at H
   by_cases c59 : x67_7 = true
   ·subst c59
    have H1 : (some false) = some r := by rw [if_pos rfl] at H; exact H
    clear H
    have H := H1
    clear H1
    exact absurd ((Option.some.inj H).trans HRT.out) (by decide)
   ·replace c59 := Bool.eq_false_iff.mpr c59
    subst c59
    have H1 : ((span_UAdd.f t714 t715 t716 t717).bind fun bt736 => ((lockgateref04_UAdd.f t714 t715 t716 t717).bind fun bt738 => (if (!(bt736.1 == bt738.1) || (!(bt736.2 == bt738.2))) = true then (lockgatelaw04_SpanUnsigned.j1 kj7 a2 a3 true t714 t715 t716 t717) else ((span_USub.f t714 t715 t716 t717).bind fun bt740 => ((lockgateref04_USub.f t714 t715 t716 t717).bind fun bt742 => (if (!(bt740.1 == bt742.1) || (!(bt740.2 == bt742.2))) = true then (lockgatelaw04_SpanUnsigned.j1 kj7 a2 a3 true t714 t715 t716 t717) else ((span_UMul.f t714 t715 t716 t717).bind fun bt744 => ((lockgateref04_UMul.f t714 t715 t716 t717).bind fun bt746 => (if (!(bt744.1 == bt746.1) || (!(bt744.2 == bt746.2))) = true then (lockgatelaw04_SpanUnsigned.j1 kj7 a2 a3 true t714 t715 t716 t717) else ((span_UDiv.f t714 t715 t716 t717).bind fun bt748 => ((lockgateref04_UDiv.f t714 t715 t716 t717).bind fun bt750 => (if (!(bt748.1 == bt750.1) || (!(bt748.2 == bt750.2))) = true then (lockgatelaw04_SpanUnsigned.j1 kj7 a2 a3 true t714 t715 t716 t717) else ((span_UMod.f kj7 t714 t715 t716 t717).bind fun bt752 => ((lockgateref04_UMod.f kj7 t714 t715 t716 t717).bind fun bt754 => (lockgatelaw04_SpanUnsigned.j1 kj7 a2 a3 (!(bt752.1 == bt754.1) || (!(bt752.2 == bt754.2))) t714 t715 t716 t717))))))))))))))) = some r := by rw [if_neg (show ¬ (false = true) by decide)] at H; exact H
    clear H
    have H := H1
    clear H1
    have HC60 := Aside0.mk H
    clear H
    go_upto_region 6 with (fail)
    go_cut [110] (fun v110 wc => ∃ (kq : Nat) (x110_59 : Bool), v110 = .bool x110_59 ∧ Aside0 (lockgatelaw04_SpanUnsigned.j1 kq a2 a3 x110_59 t714 t715 t716 t717 = some r) ∧ Aside0 (kq ≤ kj7) ∧ Aside0 (wc.heap[gb712]? = some (.cells #[.int .u64 a0_0, .int .u64 a0_1] 26 (0, 0))) ∧ Aside0 (wc.heap[gb713]? = some (.cells #[.int .u64 a1_0, .int .u64 a1_1] 26 (0, 0))) ∧ Aside0 (wc.heap[gb718]? = some (.cells #[.int .u64 t714, .int .u64 t715] 26 (0, 0))) ∧ Aside0 (wc.heap[gb719]? = some (.cells #[.int .u64 t716, .int .u64 t717] 26 (0, 0))) ∧ Aside0 (wc.heap[gb723]? = some (.cells #[.int .u64 t720, .int .u64 t721] 26 (0, 0))) ∧ Aside0 (wc.heap[gb727]? = some (.cells #[.int .u64 t724, .int .u64 t725] 26 (0, 0))) ∧ Aside0 (Below w.heap.size w wc))
    case first =>
     have H := HC60.out
     clear HC60
     replace H := Option.bind_eq_some_iff.mp H
     obtain ⟨⟨t736, t737⟩, A610, H⟩ := H
     replace H : ((lockgateref04_UAdd.f t714 t715 t716 t717).bind fun bt738 => (if (!(t736 == bt738.1) || (!(t737 == bt738.2))) = true then (lockgatelaw04_SpanUnsigned.j1 kj7 a2 a3 true t714 t715 t716 t717) else ((span_USub.f t714 t715 t716 t717).bind fun bt740 => ((lockgateref04_USub.f t714 t715 t716 t717).bind fun bt742 => (if (!(bt740.1 == bt742.1) || (!(bt740.2 == bt742.2))) = true then (lockgatelaw04_SpanUnsigned.j1 kj7 a2 a3 true t714 t715 t716 t717) else ((span_UMul.f t714 t715 t716 t717).bind fun bt744 => ((lockgateref04_UMul.f t714 t715 t716 t717).bind fun bt746 => (if (!(bt744.1 == bt746.1) || (!(bt744.2 == bt746.2))) = true then (lockgatelaw04_SpanUnsigned.j1 kj7 a2 a3 true t714 t715 t716 t717) else ((span_UDiv.f t714 t715 t716 t717).bind fun bt748 => ((lockgateref04_UDiv.f t714 t715 t716 t717).bind fun bt750 => (if (!(bt748.1 == bt750.1) || (!(bt748.2 == bt750.2))) = true then (lockgatelaw04_SpanUnsigned.j1 kj7 a2 a3 true t714 t715 t716 t717) else ((span_UMod.f kj7 t714 t715 t716 t717).bind fun bt752 => ((lockgateref04_UMod.f kj7 t714 t715 t716 t717).bind fun bt754 => (lockgatelaw04_SpanUnsigned.j1 kj7 a2 a3 (!(bt752.1 == bt754.1) || (!(bt752.2 == bt754.2))) t714 t715 t716 t717)))))))))))))) = some r := H
     have A61 := Aside0.mk A610
     clear A610
     replace H := Option.bind_eq_some_iff.mp H
     obtain ⟨⟨t738, t739⟩, A620, H⟩ := H
     replace H : (if (!(t736 == t738) || (!(t737 == t739))) = true then (lockgatelaw04_SpanUnsigned.j1 kj7 a2 a3 true t714 t715 t716 t717) else ((span_USub.f t714 t715 t716 t717).bind fun bt740 => ((lockgateref04_USub.f t714 t715 t716 t717).bind fun bt742 => (if (!(bt740.1 == bt742.1) || (!(bt740.2 == bt742.2))) = true then (lockgatelaw04_SpanUnsigned.j1 kj7 a2 a3 true t714 t715 t716 t717) else ((span_UMul.f t714 t715 t716 t717).bind fun bt744 => ((lockgateref04_UMul.f t714 t715 t716 t717).bind fun bt746 => (if (!(bt744.1 == bt746.1) || (!(bt744.2 == bt746.2))) = true then (lockgatelaw04_SpanUnsigned.j1 kj7 a2 a3 true t714 t715 t716 t717) else ((span_UDiv.f t714 t715 t716 t717).bind fun bt748 => ((lockgateref04_UDiv.f t714 t715 t716 t717).bind fun bt750 => (if (!(bt748.1 == bt750.1) || (!(bt748.2 == bt750.2))) = true then (lockgatelaw04_SpanUnsigned.j1 kj7 a2 a3 true t714 t715 t716 t717) else ((span_UMod.f kj7 t714 t715 t716 t717).bind fun bt752 => ((lockgateref04_UMod.f kj7 t714 t715 t716 t717).bind fun bt754 => (lockgatelaw04_SpanUnsigned.j1 kj7 a2 a3 (!(bt752.1 == bt754.1) || (!(bt752.2 == bt754.2))) t714 t715 t716 t717))))))))))))) = some r := H
     have A62 := Aside0.mk A620
     clear A620
     by_cases c63 : (!(t736 == t738) || (!(t737 == t739))) = true
     ·rw [if_pos c63] at H
      have c63b0 : (!(t736 == t738) || (!(t737 == t739))) = true := c63
      clear c63
      (first | rw [c63b0] | (simp only [i64_w, i32_w]; rw [c63b0]) | skip)
      exfalso
      cases kj7 with
      | zero => rw [lockgatelaw04_SpanUnsigned.j1] at H; exact nomatch H
      | succ q_ => rw [lockgatelaw04_SpanUnsigned.j1, if_pos rfl] at H; exact absurd ((Option.some.inj H).trans HRT.out) (by decide)
     ·rw [if_neg c63] at H
      have c63b0 : (!(t736 == t738) || (!(t737 == t739))) = false := by simpa using c63
      clear c63
      (first | rw [c63b0] | (simp only [i64_w, i32_w]; rw [c63b0]) | skip)
      replace H := Option.bind_eq_some_iff.mp H
      obtain ⟨⟨t740, t741⟩, A640, H⟩ := H
      replace H : ((lockgateref04_USub.f t714 t715 t716 t717).bind fun bt742 => (if (!(t740 == bt742.1) || (!(t741 == bt742.2))) = true then (lockgatelaw04_SpanUnsigned.j1 kj7 a2 a3 true t714 t715 t716 t717) else ((span_UMul.f t714 t715 t716 t717).bind fun bt744 => ((lockgateref04_UMul.f t714 t715 t716 t717).bind fun bt746 => (if (!(bt744.1 == bt746.1) || (!(bt744.2 == bt746.2))) = true then (lockgatelaw04_SpanUnsigned.j1 kj7 a2 a3 true t714 t715 t716 t717) else ((span_UDiv.f t714 t715 t716 t717).bind fun bt748 => ((lockgateref04_UDiv.f t714 t715 t716 t717).bind fun bt750 => (if (!(bt748.1 == bt750.1) || (!(bt748.2 == bt750.2))) = true then (lockgatelaw04_SpanUnsigned.j1 kj7 a2 a3 true t714 t715 t716 t717) else ((span_UMod.f kj7 t714 t715 t716 t717).bind fun bt752 => ((lockgateref04_UMod.f kj7 t714 t715 t716 t717).bind fun bt754 => (lockgatelaw04_SpanUnsigned.j1 kj7 a2 a3 (!(bt752.1 == bt754.1) || (!(bt752.2 == bt754.2))) t714 t715 t716 t717))))))))))) = some r := H
      have A64 := Aside0.mk A640
      clear A640
      replace H := Option.bind_eq_some_iff.mp H
      obtain ⟨⟨t742, t743⟩, A650, H⟩ := H
      replace H : (if (!(t740 == t742) || (!(t741 == t743))) = true then (lockgatelaw04_SpanUnsigned.j1 kj7 a2 a3 true t714 t715 t716 t717) else ((span_UMul.f t714 t715 t716 t717).bind fun bt744 => ((lockgateref04_UMul.f t714 t715 t716 t717).bind fun bt746 => (if (!(bt744.1 == bt746.1) || (!(bt744.2 == bt746.2))) = true then (lockgatelaw04_SpanUnsigned.j1 kj7 a2 a3 true t714 t715 t716 t717) else ((span_UDiv.f t714 t715 t716 t717).bind fun bt748 => ((lockgateref04_UDiv.f t714 t715 t716 t717).bind fun bt750 => (if (!(bt748.1 == bt750.1) || (!(bt748.2 == bt750.2))) = true then (lockgatelaw04_SpanUnsigned.j1 kj7 a2 a3 true t714 t715 t716 t717) else ((span_UMod.f kj7 t714 t715 t716 t717).bind fun bt752 => ((lockgateref04_UMod.f kj7 t714 t715 t716 t717).bind fun bt754 => (lockgatelaw04_SpanUnsigned.j1 kj7 a2 a3 (!(bt752.1 == bt754.1) || (!(bt752.2 == bt754.2))) t714 t715 t716 t717)))))))))) = some r := H
      have A65 := Aside0.mk A650
      clear A650
      by_cases c66 : (!(t740 == t742) || (!(t741 == t743))) = true
      ·rw [if_pos c66] at H
       have c66b0 : (!(t740 == t742) || (!(t741 == t743))) = true := c66
       clear c66
       exfalso
       cases kj7 with
       | zero => rw [lockgatelaw04_SpanUnsigned.j1] at H; exact nomatch H
       | succ q_ => rw [lockgatelaw04_SpanUnsigned.j1, if_pos rfl] at H; exact absurd ((Option.some.inj H).trans HRT.out) (by decide)
      ·rw [if_neg c66] at H
       have c66b0 : (!(t740 == t742) || (!(t741 == t743))) = false := by simpa using c66
       clear c66
       replace H := Option.bind_eq_some_iff.mp H
       obtain ⟨⟨t744, t745⟩, A670, H⟩ := H
       replace H : ((lockgateref04_UMul.f t714 t715 t716 t717).bind fun bt746 => (if (!(t744 == bt746.1) || (!(t745 == bt746.2))) = true then (lockgatelaw04_SpanUnsigned.j1 kj7 a2 a3 true t714 t715 t716 t717) else ((span_UDiv.f t714 t715 t716 t717).bind fun bt748 => ((lockgateref04_UDiv.f t714 t715 t716 t717).bind fun bt750 => (if (!(bt748.1 == bt750.1) || (!(bt748.2 == bt750.2))) = true then (lockgatelaw04_SpanUnsigned.j1 kj7 a2 a3 true t714 t715 t716 t717) else ((span_UMod.f kj7 t714 t715 t716 t717).bind fun bt752 => ((lockgateref04_UMod.f kj7 t714 t715 t716 t717).bind fun bt754 => (lockgatelaw04_SpanUnsigned.j1 kj7 a2 a3 (!(bt752.1 == bt754.1) || (!(bt752.2 == bt754.2))) t714 t715 t716 t717)))))))) = some r := H
       have A67 := Aside0.mk A670
       clear A670
       replace H := Option.bind_eq_some_iff.mp H
       obtain ⟨⟨t746, t747⟩, A680, H⟩ := H
       replace H : (if (!(t744 == t746) || (!(t745 == t747))) = true then (lockgatelaw04_SpanUnsigned.j1 kj7 a2 a3 true t714 t715 t716 t717) else ((span_UDiv.f t714 t715 t716 t717).bind fun bt748 => ((lockgateref04_UDiv.f t714 t715 t716 t717).bind fun bt750 => (if (!(bt748.1 == bt750.1) || (!(bt748.2 == bt750.2))) = true then (lockgatelaw04_SpanUnsigned.j1 kj7 a2 a3 true t714 t715 t716 t717) else ((span_UMod.f kj7 t714 t715 t716 t717).bind fun bt752 => ((lockgateref04_UMod.f kj7 t714 t715 t716 t717).bind fun bt754 => (lockgatelaw04_SpanUnsigned.j1 kj7 a2 a3 (!(bt752.1 == bt754.1) || (!(bt752.2 == bt754.2))) t714 t715 t716 t717))))))) = some r := H
       have A68 := Aside0.mk A680
       clear A680
       by_cases c69 : (!(t744 == t746) || (!(t745 == t747))) = true
       ·rw [if_pos c69] at H
        have c69b0 : (!(t744 == t746) || (!(t745 == t747))) = true := c69
        clear c69
        exfalso
        cases kj7 with
        | zero => rw [lockgatelaw04_SpanUnsigned.j1] at H; exact nomatch H
        | succ q_ => rw [lockgatelaw04_SpanUnsigned.j1, if_pos rfl] at H; exact absurd ((Option.some.inj H).trans HRT.out) (by decide)
       ·rw [if_neg c69] at H
        have c69b0 : (!(t744 == t746) || (!(t745 == t747))) = false := by simpa using c69
        clear c69
        replace H := Option.bind_eq_some_iff.mp H
        obtain ⟨⟨t748, t749⟩, A700, H⟩ := H
        replace H : ((lockgateref04_UDiv.f t714 t715 t716 t717).bind fun bt750 => (if (!(t748 == bt750.1) || (!(t749 == bt750.2))) = true then (lockgatelaw04_SpanUnsigned.j1 kj7 a2 a3 true t714 t715 t716 t717) else ((span_UMod.f kj7 t714 t715 t716 t717).bind fun bt752 => ((lockgateref04_UMod.f kj7 t714 t715 t716 t717).bind fun bt754 => (lockgatelaw04_SpanUnsigned.j1 kj7 a2 a3 (!(bt752.1 == bt754.1) || (!(bt752.2 == bt754.2))) t714 t715 t716 t717))))) = some r := H
        have A70 := Aside0.mk A700
        clear A700
        replace H := Option.bind_eq_some_iff.mp H
        obtain ⟨⟨t750, t751⟩, A710, H⟩ := H
        replace H : (if (!(t748 == t750) || (!(t749 == t751))) = true then (lockgatelaw04_SpanUnsigned.j1 kj7 a2 a3 true t714 t715 t716 t717) else ((span_UMod.f kj7 t714 t715 t716 t717).bind fun bt752 => ((lockgateref04_UMod.f kj7 t714 t715 t716 t717).bind fun bt754 => (lockgatelaw04_SpanUnsigned.j1 kj7 a2 a3 (!(bt752.1 == bt754.1) || (!(bt752.2 == bt754.2))) t714 t715 t716 t717)))) = some r := H
        have A71 := Aside0.mk A710
        clear A710
        by_cases c72 : (!(t748 == t750) || (!(t749 == t751))) = true
        ·rw [if_pos c72] at H
         have c72b0 : (!(t748 == t750) || (!(t749 == t751))) = true := c72
         clear c72
         exfalso
         cases kj7 with
         | zero => rw [lockgatelaw04_SpanUnsigned.j1] at H; exact nomatch H
         | succ q_ => rw [lockgatelaw04_SpanUnsigned.j1, if_pos rfl] at H; exact absurd ((Option.some.inj H).trans HRT.out) (by decide)
        ·rw [if_neg c72] at H
         have c72b0 : (!(t748 == t750) || (!(t749 == t751))) = false := by simpa using c72
         clear c72
         replace H := Option.bind_eq_some_iff.mp H
         obtain ⟨⟨t752, t753⟩, A730, H⟩ := H
         replace H : ((lockgateref04_UMod.f kj7 t714 t715 t716 t717).bind fun bt754 => (lockgatelaw04_SpanUnsigned.j1 kj7 a2 a3 (!(t752 == bt754.1) || (!(t753 == bt754.2))) t714 t715 t716 t717)) = some r := H
         have A73 := Aside0.mk A730
         clear A730
         replace H := Option.bind_eq_some_iff.mp H
         obtain ⟨⟨t754, t755⟩, A740, H⟩ := H
         replace H : (lockgatelaw04_SpanUnsigned.j1 kj7 a2 a3 (!(t752 == t754) || (!(t753 == t755))) t714 t715 t716 t717) = some r := H
         have A74 := Aside0.mk A740
         clear A740
         have H' := Aside0.mk H
         clear H
         try go_wp2
         replace BK712 := Aside0.mk (blk_drew BK712.out)
         replace BK713 := Aside0.mk (blk_drew BK713.out)
         replace BK718 := Aside0.mk (blk_drew BK718.out)
         replace BK719 := Aside0.mk (blk_drew BK719.out)
         replace BK723 := Aside0.mk (blk_drew BK723.out)
         replace BK727 := Aside0.mk (blk_drew BK727.out)
         replace HB := Aside0.mk (below_drew1 HB.out)
         refine start_ (n := 43) (S := fun w' => w'.cell? ⟨gb718, 0, none⟩ = some (.int .u64 t714) ∧ w'.cell? ⟨gb718, 1, none⟩ = some (.int .u64 t715) ∧ w'.cell? ⟨gb719, 0, none⟩ = some (.int .u64 t716) ∧ w'.cell? ⟨gb719, 1, none⟩ = some (.int .u64 t717)) (ds := []) #[n_,n_,n_,n_,n_,n_,n_,n_,n_,n_,n_,n_,n_,n_,n_,n_,n_,n_,n_,n_,n_,n_,n_,n_,n_,n_,n_,n_,n_,n_,n_,n_,n_,n_,n_,n_,n_,n_,n_,n_,n_,n_,n_] (by kernel_rfl) rfl rfl ⟨c0_ BK718, c1_ BK718, c0_ BK719, c1_ BK719⟩ (fun hHeld => ?_); refine with_tabW lockgatelaw04_SpanUnsigned.tab6 lockgatelaw04_SpanUnsigned.bits6 (fun HT_ HW_ => ?_)
         generalize wc.drew = w75 at BK712 BK713 BK718 BK719 BK723 BK727 HB hHeld ⊢
         refine tq1_ 0 68 #[y_,n_,n_,n_,n_,n_,n_,n_,n_,n_,n_,n_,n_,n_,n_,n_,n_,n_,n_,n_,n_,n_,n_,n_,n_,n_,n_,n_,n_,n_,n_,n_,n_,n_,n_,n_,n_,n_,n_,n_,n_,n_,n_] hHeld ?_
         refine tq1_ 1 69 #[y_,y_,n_,n_,n_,n_,n_,n_,n_,n_,n_,n_,n_,n_,n_,n_,n_,n_,n_,n_,n_,n_,n_,n_,n_,n_,n_,n_,n_,n_,n_,n_,n_,n_,n_,n_,n_,n_,n_,n_,n_,n_,n_] hHeld ?_
         refine tq1_ 3 71 #[y_,y_,n_,y_,n_,n_,n_,n_,n_,n_,n_,n_,n_,n_,n_,n_,n_,n_,n_,n_,n_,n_,n_,n_,n_,n_,n_,n_,n_,n_,n_,n_,n_,n_,n_,n_,n_,n_,n_,n_,n_,n_,n_] hHeld ?_
         refine tq1_ 4 72 #[y_,y_,n_,y_,y_,n_,n_,n_,n_,n_,n_,n_,n_,n_,n_,n_,n_,n_,n_,n_,n_,n_,n_,n_,n_,n_,n_,n_,n_,n_,n_,n_,n_,n_,n_,n_,n_,n_,n_,n_,n_,n_,n_] hHeld ?_
         refine one_ (i := 2) (N := some 70) #[y_,y_,y_,y_,y_,n_,n_,n_,n_,n_,n_,n_,n_,n_,n_,n_,n_,n_,n_,n_,n_,n_,n_,n_,n_,n_,n_,n_,n_,n_,n_,n_,n_,n_,n_,n_,n_,n_,n_,n_,n_,n_,n_] rfl rfl (one_of HT_.out (by kernel_rfl)) (by decide) (fun K hK => ?_)
         refine goes_ Try.func43 (by kernel_rfl) rfl #[.agg #[.int .u64 t714, .int .u64 t715], .agg #[.int .u64 t716, .int .u64 t717]] (by rfl) rfl rfl (by (try simp only [List.map_toArray, List.map_cons, List.map_nil]); first | done | rfl) ?_
         with_reducible refine (span_UAdd.calls t714 t715 t716 t717 t736 t737 _ A61.out).mono ?_
         rintro e w76 ⟨rfl, hb⟩
         refine ⟨_, rfl, ?_⟩
         replace BK712 := bb_ hb BK712
         replace BK713 := bb_ hb BK713
         replace BK718 := bb_ hb BK718
         replace BK719 := bb_ hb BK719
         replace BK723 := bb_ hb BK723
         replace BK727 := bb_ hb BK727
         replace HB := bl_ hb
         try clear hb
         refine hK.out _ _ ⟨c0_ BK718, c1_ BK718, c0_ BK719, c1_ BK719⟩ (fun hHeld => ?_)
         clear hK K
         refine norm_ (a' := ?_) ?_ ?_
         rotate_left
         ·show Act.put _ (some 70) _ = _
          simp only [Act.put, s1_, s2_, s3_, i64_w, i32_w]
          rfl
         refine one_ (i := 5) (N := some 73) #[y_,y_,y_,y_,y_,y_,n_,n_,n_,n_,n_,n_,n_,n_,n_,n_,n_,n_,n_,n_,n_,n_,n_,n_,n_,n_,n_,n_,n_,n_,n_,n_,n_,n_,n_,n_,n_,n_,n_,n_,n_,n_,n_] rfl rfl (one_of HT_.out (by kernel_rfl)) (by decide) (fun K hK => ?_)
         refine goes_ Try.func60 (by kernel_rfl) rfl #[.agg #[.int .u64 t714, .int .u64 t715], .agg #[.int .u64 t716, .int .u64 t717]] (by rfl) rfl rfl (by (try simp only [List.map_toArray, List.map_cons, List.map_nil]); first | done | rfl) ?_
         with_reducible refine (lockgateref04_UAdd.calls t714 t715 t716 t717 t738 t739 _ A62.out).mono ?_
         rintro e w77 ⟨rfl, hb⟩
         refine ⟨_, rfl, ?_⟩
         replace BK712 := bb_ hb BK712
         replace BK713 := bb_ hb BK713
         replace BK718 := bb_ hb BK718
         replace BK719 := bb_ hb BK719
         replace BK723 := bb_ hb BK723
         replace BK727 := bb_ hb BK727
         replace HB := bl_ hb
         try clear hb
         refine hK.out _ _ ⟨c0_ BK718, c1_ BK718, c0_ BK719, c1_ BK719⟩ (fun hHeld => ?_)
         clear hK K
         refine norm_ (a' := ?_) ?_ ?_
         rotate_left
         ·show Act.put _ (some 73) _ = _
          simp only [Act.put, s1_, s2_, s3_, i64_w, i32_w]
          rfl
         refine pq_ 6 74 #[y_,y_,y_,y_,y_,y_,y_,n_,n_,n_,n_,n_,n_,n_,n_,n_,n_,n_,n_,n_,n_,n_,n_,n_,n_,n_,n_,n_,n_,n_,n_,n_,n_,n_,n_,n_,n_,n_,n_,n_,n_,n_,n_] ?_
         refine pq_ 7 75 #[y_,y_,y_,y_,y_,y_,y_,y_,n_,n_,n_,n_,n_,n_,n_,n_,n_,n_,n_,n_,n_,n_,n_,n_,n_,n_,n_,n_,n_,n_,n_,n_,n_,n_,n_,n_,n_,n_,n_,n_,n_,n_,n_] ?_
         refine tq1_ 8 76 #[y_,y_,y_,y_,y_,y_,y_,y_,y_,n_,n_,n_,n_,n_,n_,n_,n_,n_,n_,n_,n_,n_,n_,n_,n_,n_,n_,n_,n_,n_,n_,n_,n_,n_,n_,n_,n_,n_,n_,n_,n_,n_,n_] hHeld ?_
         refine tq1_ 9 77 #[y_,y_,y_,y_,y_,y_,y_,y_,y_,y_,n_,n_,n_,n_,n_,n_,n_,n_,n_,n_,n_,n_,n_,n_,n_,n_,n_,n_,n_,n_,n_,n_,n_,n_,n_,n_,n_,n_,n_,n_,n_,n_,n_] hHeld ?_
         refine tq1_ 11 79 #[y_,y_,y_,y_,y_,y_,y_,y_,y_,y_,n_,y_,n_,n_,n_,n_,n_,n_,n_,n_,n_,n_,n_,n_,n_,n_,n_,n_,n_,n_,n_,n_,n_,n_,n_,n_,n_,n_,n_,n_,n_,n_,n_] hHeld ?_
         refine tq1_ 12 80 #[y_,y_,y_,y_,y_,y_,y_,y_,y_,y_,n_,y_,y_,n_,n_,n_,n_,n_,n_,n_,n_,n_,n_,n_,n_,n_,n_,n_,n_,n_,n_,n_,n_,n_,n_,n_,n_,n_,n_,n_,n_,n_,n_] hHeld ?_
         refine one_ (i := 10) (N := some 78) #[y_,y_,y_,y_,y_,y_,y_,y_,y_,y_,y_,y_,y_,n_,n_,n_,n_,n_,n_,n_,n_,n_,n_,n_,n_,n_,n_,n_,n_,n_,n_,n_,n_,n_,n_,n_,n_,n_,n_,n_,n_,n_,n_] rfl rfl (one_of HT_.out (by kernel_rfl)) (by decide) (fun K hK => ?_)
         refine goes_ Try.func44 (by kernel_rfl) rfl #[.agg #[.int .u64 t714, .int .u64 t715], .agg #[.int .u64 t716, .int .u64 t717]] (by rfl) rfl rfl (by (try simp only [List.map_toArray, List.map_cons, List.map_nil]); first | done | rfl) ?_
         with_reducible refine (span_USub.calls t714 t715 t716 t717 t740 t741 _ A64.out).mono ?_
         rintro e w78 ⟨rfl, hb⟩
         refine ⟨_, rfl, ?_⟩
         replace BK712 := bb_ hb BK712
         replace BK713 := bb_ hb BK713
         replace BK718 := bb_ hb BK718
         replace BK719 := bb_ hb BK719
         replace BK723 := bb_ hb BK723
         replace BK727 := bb_ hb BK727
         replace HB := bl_ hb
         try clear hb
         refine hK.out _ _ ⟨c0_ BK718, c1_ BK718, c0_ BK719, c1_ BK719⟩ (fun hHeld => ?_)
         clear hK K
         refine norm_ (a' := ?_) ?_ ?_
         rotate_left
         ·show Act.put _ (some 78) _ = _
          simp only [Act.put, s1_, s2_, s3_, i64_w, i32_w]
          rfl
         refine one_ (i := 13) (N := some 81) #[y_,y_,y_,y_,y_,y_,y_,y_,y_,y_,y_,y_,y_,y_,n_,n_,n_,n_,n_,n_,n_,n_,n_,n_,n_,n_,n_,n_,n_,n_,n_,n_,n_,n_,n_,n_,n_,n_,n_,n_,n_,n_,n_] rfl rfl (one_of HT_.out (by kernel_rfl)) (by decide) (fun K hK => ?_)
         refine goes_ Try.func61 (by kernel_rfl) rfl #[.agg #[.int .u64 t714, .int .u64 t715], .agg #[.int .u64 t716, .int .u64 t717]] (by rfl) rfl rfl (by (try simp only [List.map_toArray, List.map_cons, List.map_nil]); first | done | rfl) ?_
         with_reducible refine (lockgateref04_USub.calls t714 t715 t716 t717 t742 t743 _ A65.out).mono ?_
         rintro e w79 ⟨rfl, hb⟩
         refine ⟨_, rfl, ?_⟩
         replace BK712 := bb_ hb BK712
         replace BK713 := bb_ hb BK713
         replace BK718 := bb_ hb BK718
         replace BK719 := bb_ hb BK719
         replace BK723 := bb_ hb BK723
         replace BK727 := bb_ hb BK727
         replace HB := bl_ hb
         try clear hb
         refine hK.out _ _ ⟨c0_ BK718, c1_ BK718, c0_ BK719, c1_ BK719⟩ (fun hHeld => ?_)
         clear hK K
         refine norm_ (a' := ?_) ?_ ?_
         rotate_left
         ·show Act.put _ (some 81) _ = _
          simp only [Act.put, s1_, s2_, s3_, i64_w, i32_w]
          rfl
         refine pq_ 14 82 #[y_,y_,y_,y_,y_,y_,y_,y_,y_,y_,y_,y_,y_,y_,y_,n_,n_,n_,n_,n_,n_,n_,n_,n_,n_,n_,n_,n_,n_,n_,n_,n_,n_,n_,n_,n_,n_,n_,n_,n_,n_,n_,n_] ?_
         refine pq_ 15 83 #[y_,y_,y_,y_,y_,y_,y_,y_,y_,y_,y_,y_,y_,y_,y_,y_,n_,n_,n_,n_,n_,n_,n_,n_,n_,n_,n_,n_,n_,n_,n_,n_,n_,n_,n_,n_,n_,n_,n_,n_,n_,n_,n_] ?_
         refine pq_ 16 84 #[y_,y_,y_,y_,y_,y_,y_,y_,y_,y_,y_,y_,y_,y_,y_,y_,y_,n_,n_,n_,n_,n_,n_,n_,n_,n_,n_,n_,n_,n_,n_,n_,n_,n_,n_,n_,n_,n_,n_,n_,n_,n_,n_] ?_
         refine tq1_ 17 85 #[y_,y_,y_,y_,y_,y_,y_,y_,y_,y_,y_,y_,y_,y_,y_,y_,y_,y_,n_,n_,n_,n_,n_,n_,n_,n_,n_,n_,n_,n_,n_,n_,n_,n_,n_,n_,n_,n_,n_,n_,n_,n_,n_] hHeld ?_
         refine tq1_ 18 86 #[y_,y_,y_,y_,y_,y_,y_,y_,y_,y_,y_,y_,y_,y_,y_,y_,y_,y_,y_,n_,n_,n_,n_,n_,n_,n_,n_,n_,n_,n_,n_,n_,n_,n_,n_,n_,n_,n_,n_,n_,n_,n_,n_] hHeld ?_
         refine tq1_ 20 88 #[y_,y_,y_,y_,y_,y_,y_,y_,y_,y_,y_,y_,y_,y_,y_,y_,y_,y_,y_,n_,y_,n_,n_,n_,n_,n_,n_,n_,n_,n_,n_,n_,n_,n_,n_,n_,n_,n_,n_,n_,n_,n_,n_] hHeld ?_
         refine tq1_ 21 89 #[y_,y_,y_,y_,y_,y_,y_,y_,y_,y_,y_,y_,y_,y_,y_,y_,y_,y_,y_,n_,y_,y_,n_,n_,n_,n_,n_,n_,n_,n_,n_,n_,n_,n_,n_,n_,n_,n_,n_,n_,n_,n_,n_] hHeld ?_
         refine one_ (i := 19) (N := some 87) #[y_,y_,y_,y_,y_,y_,y_,y_,y_,y_,y_,y_,y_,y_,y_,y_,y_,y_,y_,y_,y_,y_,n_,n_,n_,n_,n_,n_,n_,n_,n_,n_,n_,n_,n_,n_,n_,n_,n_,n_,n_,n_,n_] rfl rfl (one_of HT_.out (by kernel_rfl)) (by decide) (fun K hK => ?_)
         refine goes_ Try.func54 (by kernel_rfl) rfl #[.agg #[.int .u64 t714, .int .u64 t715], .agg #[.int .u64 t716, .int .u64 t717]] (by rfl) rfl rfl (by (try simp only [List.map_toArray, List.map_cons, List.map_nil]); first | done | rfl) ?_
         with_reducible refine (span_UMul.calls t714 t715 t716 t717 t744 t745 _ A67.out).mono ?_
         rintro e w80 ⟨rfl, hb⟩
         refine ⟨_, rfl, ?_⟩
         replace BK712 := bb_ hb BK712
         replace BK713 := bb_ hb BK713
         replace BK718 := bb_ hb BK718
         replace BK719 := bb_ hb BK719
         replace BK723 := bb_ hb BK723
         replace BK727 := bb_ hb BK727
         replace HB := bl_ hb
         try clear hb
         refine hK.out _ _ ⟨c0_ BK718, c1_ BK718, c0_ BK719, c1_ BK719⟩ (fun hHeld => ?_)
         clear hK K
         refine norm_ (a' := ?_) ?_ ?_
         rotate_left
         ·show Act.put _ (some 87) _ = _
          simp only [Act.put, s1_, s2_, s3_, i64_w, i32_w]
          rfl
         refine one_ (i := 22) (N := some 90) #[y_,y_,y_,y_,y_,y_,y_,y_,y_,y_,y_,y_,y_,y_,y_,y_,y_,y_,y_,y_,y_,y_,y_,n_,n_,n_,n_,n_,n_,n_,n_,n_,n_,n_,n_,n_,n_,n_,n_,n_,n_,n_,n_] rfl rfl (one_of HT_.out (by kernel_rfl)) (by decide) (fun K hK => ?_)
         refine goes_ Try.func62 (by kernel_rfl) rfl #[.agg #[.int .u64 t714, .int .u64 t715], .agg #[.int .u64 t716, .int .u64 t717]] (by rfl) rfl rfl (by (try simp only [List.map_toArray, List.map_cons, List.map_nil]); first | done | rfl) ?_
         with_reducible refine (lockgateref04_UMul.calls t714 t715 t716 t717 t746 t747 _ A68.out).mono ?_
         rintro e w81 ⟨rfl, hb⟩
         refine ⟨_, rfl, ?_⟩
         replace BK712 := bb_ hb BK712
         replace BK713 := bb_ hb BK713
         replace BK718 := bb_ hb BK718
         replace BK719 := bb_ hb BK719
         replace BK723 := bb_ hb BK723
         replace BK727 := bb_ hb BK727
         replace HB := bl_ hb
         try clear hb
         refine hK.out _ _ ⟨c0_ BK718, c1_ BK718, c0_ BK719, c1_ BK719⟩ (fun hHeld => ?_)
         clear hK K
         refine norm_ (a' := ?_) ?_ ?_
         rotate_left
         ·show Act.put _ (some 90) _ = _
          simp only [Act.put, s1_, s2_, s3_, i64_w, i32_w]
          rfl
         refine pq_ 23 91 #[y_,y_,y_,y_,y_,y_,y_,y_,y_,y_,y_,y_,y_,y_,y_,y_,y_,y_,y_,y_,y_,y_,y_,y_,n_,n_,n_,n_,n_,n_,n_,n_,n_,n_,n_,n_,n_,n_,n_,n_,n_,n_,n_] ?_
         refine pq_ 24 92 #[y_,y_,y_,y_,y_,y_,y_,y_,y_,y_,y_,y_,y_,y_,y_,y_,y_,y_,y_,y_,y_,y_,y_,y_,y_,n_,n_,n_,n_,n_,n_,n_,n_,n_,n_,n_,n_,n_,n_,n_,n_,n_,n_] ?_
         refine pq_ 25 93 #[y_,y_,y_,y_,y_,y_,y_,y_,y_,y_,y_,y_,y_,y_,y_,y_,y_,y_,y_,y_,y_,y_,y_,y_,y_,y_,n_,n_,n_,n_,n_,n_,n_,n_,n_,n_,n_,n_,n_,n_,n_,n_,n_] ?_
         refine tq1_ 26 94 #[y_,y_,y_,y_,y_,y_,y_,y_,y_,y_,y_,y_,y_,y_,y_,y_,y_,y_,y_,y_,y_,y_,y_,y_,y_,y_,y_,n_,n_,n_,n_,n_,n_,n_,n_,n_,n_,n_,n_,n_,n_,n_,n_] hHeld ?_
         refine tq1_ 27 95 #[y_,y_,y_,y_,y_,y_,y_,y_,y_,y_,y_,y_,y_,y_,y_,y_,y_,y_,y_,y_,y_,y_,y_,y_,y_,y_,y_,y_,n_,n_,n_,n_,n_,n_,n_,n_,n_,n_,n_,n_,n_,n_,n_] hHeld ?_
         refine tq1_ 29 97 #[y_,y_,y_,y_,y_,y_,y_,y_,y_,y_,y_,y_,y_,y_,y_,y_,y_,y_,y_,y_,y_,y_,y_,y_,y_,y_,y_,y_,n_,y_,n_,n_,n_,n_,n_,n_,n_,n_,n_,n_,n_,n_,n_] hHeld ?_
         refine tq1_ 30 98 #[y_,y_,y_,y_,y_,y_,y_,y_,y_,y_,y_,y_,y_,y_,y_,y_,y_,y_,y_,y_,y_,y_,y_,y_,y_,y_,y_,y_,n_,y_,y_,n_,n_,n_,n_,n_,n_,n_,n_,n_,n_,n_,n_] hHeld ?_
         refine one_ (i := 28) (N := some 96) #[y_,y_,y_,y_,y_,y_,y_,y_,y_,y_,y_,y_,y_,y_,y_,y_,y_,y_,y_,y_,y_,y_,y_,y_,y_,y_,y_,y_,y_,y_,y_,n_,n_,n_,n_,n_,n_,n_,n_,n_,n_,n_,n_] rfl rfl (one_of HT_.out (by kernel_rfl)) (by decide) (fun K hK => ?_)
         refine goes_ Try.func51 (by kernel_rfl) rfl #[.agg #[.int .u64 t714, .int .u64 t715], .agg #[.int .u64 t716, .int .u64 t717]] (by rfl) rfl rfl (by (try simp only [List.map_toArray, List.map_cons, List.map_nil]); first | done | rfl) ?_
         with_reducible refine (span_UDiv.calls t714 t715 t716 t717 t748 t749 _ A70.out).mono ?_
         rintro e w82 ⟨rfl, hb⟩
         refine ⟨_, rfl, ?_⟩
         replace BK712 := bb_ hb BK712
         replace BK713 := bb_ hb BK713
         replace BK718 := bb_ hb BK718
         replace BK719 := bb_ hb BK719
         replace BK723 := bb_ hb BK723
         replace BK727 := bb_ hb BK727
         replace HB := bl_ hb
         try clear hb
         refine hK.out _ _ ⟨c0_ BK718, c1_ BK718, c0_ BK719, c1_ BK719⟩ (fun hHeld => ?_)
         clear hK K
         refine norm_ (a' := ?_) ?_ ?_
         rotate_left
         ·show Act.put _ (some 96) _ = _
          simp only [Act.put, s1_, s2_, s3_, i64_w, i32_w]
          rfl
         refine one_ (i := 31) (N := some 99) #[y_,y_,y_,y_,y_,y_,y_,y_,y_,y_,y_,y_,y_,y_,y_,y_,y_,y_,y_,y_,y_,y_,y_,y_,y_,y_,y_,y_,y_,y_,y_,y_,n_,n_,n_,n_,n_,n_,n_,n_,n_,n_,n_] rfl rfl (one_of HT_.out (by kernel_rfl)) (by decide) (fun K hK => ?_)
         refine goes_ Try.func63 (by kernel_rfl) rfl #[.agg #[.int .u64 t714, .int .u64 t715], .agg #[.int .u64 t716, .int .u64 t717]] (by rfl) rfl rfl (by (try simp only [List.map_toArray, List.map_cons, List.map_nil]); first | done | rfl) ?_
         with_reducible refine (lockgateref04_UDiv.calls t714 t715 t716 t717 t750 t751 _ A71.out).mono ?_
         rintro e w83 ⟨rfl, hb⟩
         refine ⟨_, rfl, ?_⟩
         replace BK712 := bb_ hb BK712
         replace BK713 := bb_ hb BK713
         replace BK718 := bb_ hb BK718
         replace BK719 := bb_ hb BK719
         replace BK723 := bb_ hb BK723
         replace BK727 := bb_ hb BK727
         replace HB := bl_ hb
         try clear hb
         refine hK.out _ _ ⟨c0_ BK718, c1_ BK718, c0_ BK719, c1_ BK719⟩ (fun hHeld => ?_)
         clear hK K
         refine norm_ (a' := ?_) ?_ ?_
         rotate_left
         ·show Act.put _ (some 99) _ = _
          simp only [Act.put, s1_, s2_, s3_, i64_w, i32_w]
          rfl
         refine pq_ 32 100 #[y_,y_,y_,y_,y_,y_,y_,y_,y_,y_,y_,y_,y_,y_,y_,y_,y_,y_,y_,y_,y_,y_,y_,y_,y_,y_,y_,y_,y_,y_,y_,y_,y_,n_,n_,n_,n_,n_,n_,n_,n_,n_,n_] ?_
         refine pq_ 33 101 #[y_,y_,y_,y_,y_,y_,y_,y_,y_,y_,y_,y_,y_,y_,y_,y_,y_,y_,y_,y_,y_,y_,y_,y_,y_,y_,y_,y_,y_,y_,y_,y_,y_,y_,n_,n_,n_,n_,n_,n_,n_,n_,n_] ?_
         refine pq_ 34 102 #[y_,y_,y_,y_,y_,y_,y_,y_,y_,y_,y_,y_,y_,y_,y_,y_,y_,y_,y_,y_,y_,y_,y_,y_,y_,y_,y_,y_,y_,y_,y_,y_,y_,y_,y_,n_,n_,n_,n_,n_,n_,n_,n_] ?_
         refine tq1_ 35 103 #[y_,y_,y_,y_,y_,y_,y_,y_,y_,y_,y_,y_,y_,y_,y_,y_,y_,y_,y_,y_,y_,y_,y_,y_,y_,y_,y_,y_,y_,y_,y_,y_,y_,y_,y_,y_,n_,n_,n_,n_,n_,n_,n_] hHeld ?_
         refine tq1_ 36 104 #[y_,y_,y_,y_,y_,y_,y_,y_,y_,y_,y_,y_,y_,y_,y_,y_,y_,y_,y_,y_,y_,y_,y_,y_,y_,y_,y_,y_,y_,y_,y_,y_,y_,y_,y_,y_,y_,n_,n_,n_,n_,n_,n_] hHeld ?_
         refine tq1_ 38 106 #[y_,y_,y_,y_,y_,y_,y_,y_,y_,y_,y_,y_,y_,y_,y_,y_,y_,y_,y_,y_,y_,y_,y_,y_,y_,y_,y_,y_,y_,y_,y_,y_,y_,y_,y_,y_,y_,n_,y_,n_,n_,n_,n_] hHeld ?_
         refine tq1_ 39 107 #[y_,y_,y_,y_,y_,y_,y_,y_,y_,y_,y_,y_,y_,y_,y_,y_,y_,y_,y_,y_,y_,y_,y_,y_,y_,y_,y_,y_,y_,y_,y_,y_,y_,y_,y_,y_,y_,n_,y_,y_,n_,n_,n_] hHeld ?_
         refine one_ (i := 37) (N := some 105) #[y_,y_,y_,y_,y_,y_,y_,y_,y_,y_,y_,y_,y_,y_,y_,y_,y_,y_,y_,y_,y_,y_,y_,y_,y_,y_,y_,y_,y_,y_,y_,y_,y_,y_,y_,y_,y_,y_,y_,y_,n_,n_,n_] rfl rfl (one_of HT_.out (by kernel_rfl)) (by decide) (fun K hK => ?_)
         refine goes_ Try.func52 (by kernel_rfl) rfl #[.agg #[.int .u64 t714, .int .u64 t715], .agg #[.int .u64 t716, .int .u64 t717]] (by rfl) rfl rfl (by (try simp only [List.map_toArray, List.map_cons, List.map_nil]); first | done | rfl) ?_
         with_reducible refine (span_UMod.calls kj7 t714 t715 t716 t717 t752 t753 _ A73.out).mono ?_
         rintro e w84 ⟨rfl, hb⟩
         refine ⟨_, rfl, ?_⟩
         replace BK712 := bb_ hb BK712
         replace BK713 := bb_ hb BK713
         replace BK718 := bb_ hb BK718
         replace BK719 := bb_ hb BK719
         replace BK723 := bb_ hb BK723
         replace BK727 := bb_ hb BK727
         replace HB := bl_ hb
         try clear hb
         refine hK.out _ _ ⟨c0_ BK718, c1_ BK718, c0_ BK719, c1_ BK719⟩ (fun hHeld => ?_)
         clear hK K
         refine norm_ (a' := ?_) ?_ ?_
         rotate_left
         ·show Act.put _ (some 105) _ = _
          simp only [Act.put, s1_, s2_, s3_, i64_w, i32_w]
          rfl
         refine one_ (i := 40) (N := some 108) #[y_,y_,y_,y_,y_,y_,y_,y_,y_,y_,y_,y_,y_,y_,y_,y_,y_,y_,y_,y_,y_,y_,y_,y_,y_,y_,y_,y_,y_,y_,y_,y_,y_,y_,y_,y_,y_,y_,y_,y_,y_,n_,n_] rfl rfl (one_of HT_.out (by kernel_rfl)) (by decide) (fun K hK => ?_)
         refine goes_ Try.func64 (by kernel_rfl) rfl #[.agg #[.int .u64 t714, .int .u64 t715], .agg #[.int .u64 t716, .int .u64 t717]] (by rfl) rfl rfl (by (try simp only [List.map_toArray, List.map_cons, List.map_nil]); first | done | rfl) ?_
         with_reducible refine (lockgateref04_UMod.calls kj7 t714 t715 t716 t717 t754 t755 _ A74.out).mono ?_
         rintro e w85 ⟨rfl, hb⟩
         refine ⟨_, rfl, ?_⟩
         replace BK712 := bb_ hb BK712
         replace BK713 := bb_ hb BK713
         replace BK718 := bb_ hb BK718
         replace BK719 := bb_ hb BK719
         replace BK723 := bb_ hb BK723
         replace BK727 := bb_ hb BK727
         replace HB := bl_ hb
         try clear hb
         refine hK.out _ _ ⟨c0_ BK718, c1_ BK718, c0_ BK719, c1_ BK719⟩ (fun hHeld => ?_)
         clear hK K
         refine norm_ (a' := ?_) ?_ ?_
         rotate_left
         ·show Act.put _ (some 108) _ = _
          simp only [Act.put, s1_, s2_, s3_, i64_w, i32_w]
          rfl
         refine pq_ 41 109 #[y_,y_,y_,y_,y_,y_,y_,y_,y_,y_,y_,y_,y_,y_,y_,y_,y_,y_,y_,y_,y_,y_,y_,y_,y_,y_,y_,y_,y_,y_,y_,y_,y_,y_,y_,y_,y_,y_,y_,y_,y_,y_,n_] ?_
         refine pq_ 42 110 #[y_,y_,y_,y_,y_,y_,y_,y_,y_,y_,y_,y_,y_,y_,y_,y_,y_,y_,y_,y_,y_,y_,y_,y_,y_,y_,y_,y_,y_,y_,y_,y_,y_,y_,y_,y_,y_,y_,y_,y_,y_,y_,y_] ?_
         refine done_ (done_of HT_.out (by kernel_rfl)) ?_
         try go_wp2
         go_meet
         case rel => exact ⟨_, ((!(t752 == t754) || (!(t753 == t755)))), (by first | rfl | (simp; done) | (simp [*]; done)), H', ⟨by have := HJ7.out; first | omega | exact Nat.le_refl _⟩, ⟨by exact bk_⟩, ⟨by exact bk_⟩, ⟨by exact bk_⟩, ⟨by exact bk_⟩, ⟨by exact bk_⟩, ⟨by exact bk_⟩, ⟨by repeat (first | (with_reducible first | exact HB.out | apply lA_ | apply lN_ | apply lD_ | refine lS_ ?_ GE712.out | refine lS_ ?_ GE713.out | refine lS_ ?_ GE718.out | refine lS_ ?_ GE719.out | refine lS_ ?_ GE723.out | refine lS_ ?_ GE727.out) | exact HB.out)⟩⟩
    case rest =>
     clear HC60
     try clear p2
     try clear c4
     try clear c5
     try clear c6
     try clear c44
     try clear c51
     try clear c52
     try clear c54
     try clear c60
     try clear c61
     try clear c62
     try clear c63
     try clear c64
     obtain ⟨kq, x110_59, rfl, HA, HJ59, BK712, BK713, BK718, BK719, BK723, BK727, HB⟩ := hcut
     cases kq with
     | zero => exact absurd HA.out (by simp [lockgatelaw04_SpanUnsigned.j1])
     | succ kj59 =>
      have H := HA.out
      clear HA
      simp only [lockgatelaw04_SpanUnsigned.j1] at H
      by_cases c86 : x110_59 = true
      ·subst c86
       have H1 : (some false) = some r := by rw [if_pos rfl] at H; exact H
       clear H
       have H := H1
       clear H1
       exact absurd ((Option.some.inj H).trans HRT.out) (by decide)
      ·replace c86 := Bool.eq_false_iff.mpr c86
       subst c86
       have H1 : ((span_UAnd.f t714 t715 t716 t717).bind fun bt756 => ((lockgateref04_UAnd.f kj59 t714 t715 t716 t717).bind fun bt758 => (if (!(bt756.1 == bt758.1) || (!(bt756.2 == bt758.2))) = true then (lockgatelaw04_SpanUnsigned.j2 kj59 a3 true t714 t715) else ((span_UOr.f kj59 t714 t715 t716 t717).bind fun bt760 => ((lockgateref04_UOr.f kj59 t714 t715 t716 t717).bind fun bt762 => (if (!(bt760.1 == bt762.1) || (!(bt760.2 == bt762.2))) = true then (lockgatelaw04_SpanUnsigned.j2 kj59 a3 true t714 t715) else ((span_ULsh.f t714 t715 a2).bind fun bt764 => ((lockgateref04_ULsh.f kj59 t714 t715 a2).bind fun bt766 => (if (!(bt764.1 == bt766.1) || (!(bt764.2 == bt766.2))) = true then (lockgatelaw04_SpanUnsigned.j2 kj59 a3 true t714 t715) else ((span_URsh.f t714 t715 a2).bind fun bt768 => ((lockgateref04_URsh.f kj59 t714 t715 a2).bind fun bt770 => (if (!(bt768.1 == bt770.1) || (!(bt768.2 == bt770.2))) = true then (lockgatelaw04_SpanUnsigned.j2 kj59 a3 true t714 t715) else ((span_UCut.f t714 t715).bind fun bt772 => ((lockgateref04_UCut.f t714 t715).bind fun bt774 => (lockgatelaw04_SpanUnsigned.j2 kj59 a3 (!(bt772.1 == bt774.1) || (!(bt772.2 == bt774.2))) t714 t715))))))))))))))) = some r := by rw [if_neg (show ¬ (false = true) by decide)] at H; exact H
       clear H
       have H := H1
       clear H1
       have HC87 := Aside0.mk H
       clear H
       go_upto_region 8 with (fail)
       go_cut [151] (fun v151 wc => ∃ (kq : Nat) (x151_86 : Bool), v151 = .bool x151_86 ∧ Aside0 (lockgatelaw04_SpanUnsigned.j2 kq a3 x151_86 t714 t715 = some r) ∧ Aside0 (kq ≤ kj59) ∧ Aside0 (wc.heap[gb712]? = some (.cells #[.int .u64 a0_0, .int .u64 a0_1] 26 (0, 0))) ∧ Aside0 (wc.heap[gb713]? = some (.cells #[.int .u64 a1_0, .int .u64 a1_1] 26 (0, 0))) ∧ Aside0 (wc.heap[gb718]? = some (.cells #[.int .u64 t714, .int .u64 t715] 26 (0, 0))) ∧ Aside0 (wc.heap[gb719]? = some (.cells #[.int .u64 t716, .int .u64 t717] 26 (0, 0))) ∧ Aside0 (wc.heap[gb723]? = some (.cells #[.int .u64 t720, .int .u64 t721] 26 (0, 0))) ∧ Aside0 (wc.heap[gb727]? = some (.cells #[.int .u64 t724, .int .u64 t725] 26 (0, 0))) ∧ Aside0 (Below w.heap.size w wc))
       case first =>
        have H := HC87.out
        clear HC87
        replace H := Option.bind_eq_some_iff.mp H
        obtain ⟨⟨t756, t757⟩, A880, H⟩ := H
        replace H : ((lockgateref04_UAnd.f kj59 t714 t715 t716 t717).bind fun bt758 => (if (!(t756 == bt758.1) || (!(t757 == bt758.2))) = true then (lockgatelaw04_SpanUnsigned.j2 kj59 a3 true t714 t715) else ((span_UOr.f kj59 t714 t715 t716 t717).bind fun bt760 => ((lockgateref04_UOr.f kj59 t714 t715 t716 t717).bind fun bt762 => (if (!(bt760.1 == bt762.1) || (!(bt760.2 == bt762.2))) = true then (lockgatelaw04_SpanUnsigned.j2 kj59 a3 true t714 t715) else ((span_ULsh.f t714 t715 a2).bind fun bt764 => ((lockgateref04_ULsh.f kj59 t714 t715 a2).bind fun bt766 => (if (!(bt764.1 == bt766.1) || (!(bt764.2 == bt766.2))) = true then (lockgatelaw04_SpanUnsigned.j2 kj59 a3 true t714 t715) else ((span_URsh.f t714 t715 a2).bind fun bt768 => ((lockgateref04_URsh.f kj59 t714 t715 a2).bind fun bt770 => (if (!(bt768.1 == bt770.1) || (!(bt768.2 == bt770.2))) = true then (lockgatelaw04_SpanUnsigned.j2 kj59 a3 true t714 t715) else ((span_UCut.f t714 t715).bind fun bt772 => ((lockgateref04_UCut.f t714 t715).bind fun bt774 => (lockgatelaw04_SpanUnsigned.j2 kj59 a3 (!(bt772.1 == bt774.1) || (!(bt772.2 == bt774.2))) t714 t715)))))))))))))) = some r := H
        have A88 := Aside0.mk A880
        clear A880
        replace H := Option.bind_eq_some_iff.mp H
        obtain ⟨⟨t758, t759⟩, A890, H⟩ := H
        replace H : (if (!(t756 == t758) || (!(t757 == t759))) = true then (lockgatelaw04_SpanUnsigned.j2 kj59 a3 true t714 t715) else ((span_UOr.f kj59 t714 t715 t716 t717).bind fun bt760 => ((lockgateref04_UOr.f kj59 t714 t715 t716 t717).bind fun bt762 => (if (!(bt760.1 == bt762.1) || (!(bt760.2 == bt762.2))) = true then (lockgatelaw04_SpanUnsigned.j2 kj59 a3 true t714 t715) else ((span_ULsh.f t714 t715 a2).bind fun bt764 => ((lockgateref04_ULsh.f kj59 t714 t715 a2).bind fun bt766 => (if (!(bt764.1 == bt766.1) || (!(bt764.2 == bt766.2))) = true then (lockgatelaw04_SpanUnsigned.j2 kj59 a3 true t714 t715) else ((span_URsh.f t714 t715 a2).bind fun bt768 => ((lockgateref04_URsh.f kj59 t714 t715 a2).bind fun bt770 => (if (!(bt768.1 == bt770.1) || (!(bt768.2 == bt770.2))) = true then (lockgatelaw04_SpanUnsigned.j2 kj59 a3 true t714 t715) else ((span_UCut.f t714 t715).bind fun bt772 => ((lockgateref04_UCut.f t714 t715).bind fun bt774 => (lockgatelaw04_SpanUnsigned.j2 kj59 a3 (!(bt772.1 == bt774.1) || (!(bt772.2 == bt774.2))) t714 t715))))))))))))) = some r := H
        have A89 := Aside0.mk A890
        clear A890
        by_cases c90 : (!(t756 == t758) || (!(t757 == t759))) = true
        ·rw [if_pos c90] at H
         have c90b0 : (!(t756 == t758) || (!(t757 == t759))) = true := c90
         clear c90
         (first | rw [c90b0] | (simp only [i64_w, i32_w]; rw [c90b0]) | skip)
         exfalso
         cases kj59 with
         | zero => rw [lockgatelaw04_SpanUnsigned.j2] at H; exact nomatch H
         | succ q_ => rw [lockgatelaw04_SpanUnsigned.j2, if_pos rfl] at H; exact absurd ((Option.some.inj H).trans HRT.out) (by decide)
        ·rw [if_neg c90] at H
         have c90b0 : (!(t756 == t758) || (!(t757 == t759))) = false := by simpa using c90
         clear c90
         (first | rw [c90b0] | (simp only [i64_w, i32_w]; rw [c90b0]) | skip)
         replace H := Option.bind_eq_some_iff.mp H
         obtain ⟨⟨t760, t761⟩, A910, H⟩ := H
         replace H : ((lockgateref04_UOr.f kj59 t714 t715 t716 t717).bind fun bt762 => (if (!(t760 == bt762.1) || (!(t761 == bt762.2))) = true then (lockgatelaw04_SpanUnsigned.j2 kj59 a3 true t714 t715) else ((span_ULsh.f t714 t715 a2).bind fun bt764 => ((lockgateref04_ULsh.f kj59 t714 t715 a2).bind fun bt766 => (if (!(bt764.1 == bt766.1) || (!(bt764.2 == bt766.2))) = true then (lockgatelaw04_SpanUnsigned.j2 kj59 a3 true t714 t715) else ((span_URsh.f t714 t715 a2).bind fun bt768 => ((lockgateref04_URsh.f kj59 t714 t715 a2).bind fun bt770 => (if (!(bt768.1 == bt770.1) || (!(bt768.2 == bt770.2))) = true then (lockgatelaw04_SpanUnsigned.j2 kj59 a3 true t714 t715) else ((span_UCut.f t714 t715).bind fun bt772 => ((lockgateref04_UCut.f t714 t715).bind fun bt774 => (lockgatelaw04_SpanUnsigned.j2 kj59 a3 (!(bt772.1 == bt774.1) || (!(bt772.2 == bt774.2))) t714 t715))))))))))) = some r := H
         have A91 := Aside0.mk A910
         clear A910
         replace H := Option.bind_eq_some_iff.mp H
         obtain ⟨⟨t762, t763⟩, A920, H⟩ := H
         replace H : (if (!(t760 == t762) || (!(t761 == t763))) = true then (lockgatelaw04_SpanUnsigned.j2 kj59 a3 true t714 t715) else ((span_ULsh.f t714 t715 a2).bind fun bt764 => ((lockgateref04_ULsh.f kj59 t714 t715 a2).bind fun bt766 => (if (!(bt764.1 == bt766.1) || (!(bt764.2 == bt766.2))) = true then (lockgatelaw04_SpanUnsigned.j2 kj59 a3 true t714 t715) else ((span_URsh.f t714 t715 a2).bind fun bt768 => ((lockgateref04_URsh.f kj59 t714 t715 a2).bind fun bt770 => (if (!(bt768.1 == bt770.1) || (!(bt768.2 == bt770.2))) = true then (lockgatelaw04_SpanUnsigned.j2 kj59 a3 true t714 t715) else ((span_UCut.f t714 t715).bind fun bt772 => ((lockgateref04_UCut.f t714 t715).bind fun bt774 => (lockgatelaw04_SpanUnsigned.j2 kj59 a3 (!(bt772.1 == bt774.1) || (!(bt772.2 == bt774.2))) t714 t715)))))))))) = some r := H
         have A92 := Aside0.mk A920
         clear A920
         by_cases c93 : (!(t760 == t762) || (!(t761 == t763))) = true
         ·rw [if_pos c93] at H
          have c93b0 : (!(t760 == t762) || (!(t761 == t763))) = true := c93
          clear c93
          exfalso
          cases kj59 with
          | zero => rw [lockgatelaw04_SpanUnsigned.j2] at H; exact nomatch H
          | succ q_ => rw [lockgatelaw04_SpanUnsigned.j2, if_pos rfl] at H; exact absurd ((Option.some.inj H).trans HRT.out) (by decide)
         ·rw [if_neg c93] at H
          have c93b0 : (!(t760 == t762) || (!(t761 == t763))) = false := by simpa using c93
          clear c93
          replace H := Option.bind_eq_some_iff.mp H
          obtain ⟨⟨t764, t765⟩, A940, H⟩ := H
          replace H : ((lockgateref04_ULsh.f kj59 t714 t715 a2).bind fun bt766 => (if (!(t764 == bt766.1) || (!(t765 == bt766.2))) = true then (lockgatelaw04_SpanUnsigned.j2 kj59 a3 true t714 t715) else ((span_URsh.f t714 t715 a2).bind fun bt768 => ((lockgateref04_URsh.f kj59 t714 t715 a2).bind fun bt770 => (if (!(bt768.1 == bt770.1) || (!(bt768.2 == bt770.2))) = true then (lockgatelaw04_SpanUnsigned.j2 kj59 a3 true t714 t715) else ((span_UCut.f t714 t715).bind fun bt772 => ((lockgateref04_UCut.f t714 t715).bind fun bt774 => (lockgatelaw04_SpanUnsigned.j2 kj59 a3 (!(bt772.1 == bt774.1) || (!(bt772.2 == bt774.2))) t714 t715)))))))) = some r := H
          have A94 := Aside0.mk A940
          clear A940
          replace H := Option.bind_eq_some_iff.mp H
          obtain ⟨⟨t766, t767⟩, A950, H⟩ := H
          replace H : (if (!(t764 == t766) || (!(t765 == t767))) = true then (lockgatelaw04_SpanUnsigned.j2 kj59 a3 true t714 t715) else ((span_URsh.f t714 t715 a2).bind fun bt768 => ((lockgateref04_URsh.f kj59 t714 t715 a2).bind fun bt770 => (if (!(bt768.1 == bt770.1) || (!(bt768.2 == bt770.2))) = true then (lockgatelaw04_SpanUnsigned.j2 kj59 a3 true t714 t715) else ((span_UCut.f t714 t715).bind fun bt772 => ((lockgateref04_UCut.f t714 t715).bind fun bt774 => (lockgatelaw04_SpanUnsigned.j2 kj59 a3 (!(bt772.1 == bt774.1) || (!(bt772.2 == bt774.2))) t714 t715))))))) = some r := H
          have A95 := Aside0.mk A950
          clear A950
          by_cases c96 : (!(t764 == t766) || (!(t765 == t767))) = true
          ·rw [if_pos c96] at H
           have c96b0 : (!(t764 == t766) || (!(t765 == t767))) = true := c96
           clear c96
           exfalso
           cases kj59 with
           | zero => rw [lockgatelaw04_SpanUnsigned.j2] at H; exact nomatch H
           | succ q_ => rw [lockgatelaw04_SpanUnsigned.j2, if_pos rfl] at H; exact absurd ((Option.some.inj H).trans HRT.out) (by decide)
          ·rw [if_neg c96] at H
           have c96b0 : (!(t764 == t766) || (!(t765 == t767))) = false := by simpa using c96
           clear c96
           replace H := Option.bind_eq_some_iff.mp H
           obtain ⟨⟨t768, t769⟩, A970, H⟩ := H
           replace H : ((lockgateref04_URsh.f kj59 t714 t715 a2).bind fun bt770 => (if (!(t768 == bt770.1) || (!(t769 == bt770.2))) = true then (lockgatelaw04_SpanUnsigned.j2 kj59 a3 true t714 t715) else ((span_UCut.f t714 t715).bind fun bt772 => ((lockgateref04_UCut.f t714 t715).bind fun bt774 => (lockgatelaw04_SpanUnsigned.j2 kj59 a3 (!(bt772.1 == bt774.1) || (!(bt772.2 == bt774.2))) t714 t715))))) = some r := H
           have A97 := Aside0.mk A970
           clear A970
           replace H := Option.bind_eq_some_iff.mp H
           obtain ⟨⟨t770, t771⟩, A980, H⟩ := H
           replace H : (if (!(t768 == t770) || (!(t769 == t771))) = true then (lockgatelaw04_SpanUnsigned.j2 kj59 a3 true t714 t715) else ((span_UCut.f t714 t715).bind fun bt772 => ((lockgateref04_UCut.f t714 t715).bind fun bt774 => (lockgatelaw04_SpanUnsigned.j2 kj59 a3 (!(bt772.1 == bt774.1) || (!(bt772.2 == bt774.2))) t714 t715)))) = some r := H
           have A98 := Aside0.mk A980
           clear A980
           by_cases c99 : (!(t768 == t770) || (!(t769 == t771))) = true
           ·rw [if_pos c99] at H
            have c99b0 : (!(t768 == t770) || (!(t769 == t771))) = true := c99
            clear c99
            exfalso
            cases kj59 with
            | zero => rw [lockgatelaw04_SpanUnsigned.j2] at H; exact nomatch H
            | succ q_ => rw [lockgatelaw04_SpanUnsigned.j2, if_pos rfl] at H; exact absurd ((Option.some.inj H).trans HRT.out) (by decide)
           ·rw [if_neg c99] at H
            have c99b0 : (!(t768 == t770) || (!(t769 == t771))) = false := by simpa using c99
            clear c99
            replace H := Option.bind_eq_some_iff.mp H
            obtain ⟨⟨t772, t773⟩, A1000, H⟩ := H
            replace H : ((lockgateref04_UCut.f t714 t715).bind fun bt774 => (lockgatelaw04_SpanUnsigned.j2 kj59 a3 (!(t772 == bt774.1) || (!(t773 == bt774.2))) t714 t715)) = some r := H
            have A100 := Aside0.mk A1000
            clear A1000
            replace H := Option.bind_eq_some_iff.mp H
            obtain ⟨⟨t774, t775⟩, A1010, H⟩ := H
            replace H : (lockgatelaw04_SpanUnsigned.j2 kj59 a3 (!(t772 == t774) || (!(t773 == t775))) t714 t715) = some r := H
            have A101 := Aside0.mk A1010
            clear A1010
            have H' := Aside0.mk H
            clear H
            try go_wp2
            replace BK712 := Aside0.mk (blk_drew BK712.out)
            replace BK713 := Aside0.mk (blk_drew BK713.out)
            replace BK718 := Aside0.mk (blk_drew BK718.out)
            replace BK719 := Aside0.mk (blk_drew BK719.out)
            replace BK723 := Aside0.mk (blk_drew BK723.out)
            replace BK727 := Aside0.mk (blk_drew BK727.out)
            replace HB := Aside0.mk (below_drew1 HB.out)
            refine start_ (n := 41) (S := fun w' => w'.cell? ⟨gb718, 0, none⟩ = some (.int .u64 t714) ∧ w'.cell? ⟨gb718, 1, none⟩ = some (.int .u64 t715) ∧ w'.cell? ⟨gb719, 0, none⟩ = some (.int .u64 t716) ∧ w'.cell? ⟨gb719, 1, none⟩ = some (.int .u64 t717)) (ds := []) #[n_,n_,n_,n_,n_,n_,n_,n_,n_,n_,n_,n_,n_,n_,n_,n_,n_,n_,n_,n_,n_,n_,n_,n_,n_,n_,n_,n_,n_,n_,n_,n_,n_,n_,n_,n_,n_,n_,n_,n_,n_] (by kernel_rfl) rfl rfl ⟨c0_ BK718, c1_ BK718, c0_ BK719, c1_ BK719⟩ (fun hHeld => ?_); refine with_tabW lockgatelaw04_SpanUnsigned.tab8 lockgatelaw04_SpanUnsigned.bits8 (fun HT_ HW_ => ?_)
            generalize wc.drew = w102 at BK712 BK713 BK718 BK719 BK723 BK727 HB hHeld ⊢
            refine tq1_ 0 111 #[y_,n_,n_,n_,n_,n_,n_,n_,n_,n_,n_,n_,n_,n_,n_,n_,n_,n_,n_,n_,n_,n_,n_,n_,n_,n_,n_,n_,n_,n_,n_,n_,n_,n_,n_,n_,n_,n_,n_,n_,n_] hHeld ?_
            refine tq1_ 1 112 #[y_,y_,n_,n_,n_,n_,n_,n_,n_,n_,n_,n_,n_,n_,n_,n_,n_,n_,n_,n_,n_,n_,n_,n_,n_,n_,n_,n_,n_,n_,n_,n_,n_,n_,n_,n_,n_,n_,n_,n_,n_] hHeld ?_
            refine tq1_ 3 114 #[y_,y_,n_,y_,n_,n_,n_,n_,n_,n_,n_,n_,n_,n_,n_,n_,n_,n_,n_,n_,n_,n_,n_,n_,n_,n_,n_,n_,n_,n_,n_,n_,n_,n_,n_,n_,n_,n_,n_,n_,n_] hHeld ?_
            refine tq1_ 4 115 #[y_,y_,n_,y_,y_,n_,n_,n_,n_,n_,n_,n_,n_,n_,n_,n_,n_,n_,n_,n_,n_,n_,n_,n_,n_,n_,n_,n_,n_,n_,n_,n_,n_,n_,n_,n_,n_,n_,n_,n_,n_] hHeld ?_
            refine one_ (i := 2) (N := some 113) #[y_,y_,y_,y_,y_,n_,n_,n_,n_,n_,n_,n_,n_,n_,n_,n_,n_,n_,n_,n_,n_,n_,n_,n_,n_,n_,n_,n_,n_,n_,n_,n_,n_,n_,n_,n_,n_,n_,n_,n_,n_] rfl rfl (one_of HT_.out (by kernel_rfl)) (by decide) (fun K hK => ?_)
            refine goes_ Try.func45 (by kernel_rfl) rfl #[.agg #[.int .u64 t714, .int .u64 t715], .agg #[.int .u64 t716, .int .u64 t717]] (by rfl) rfl rfl (by (try simp only [List.map_toArray, List.map_cons, List.map_nil]); first | done | rfl) ?_
            with_reducible refine (span_UAnd.calls t714 t715 t716 t717 t756 t757 _ A88.out).mono ?_
            rintro e w103 ⟨rfl, hb⟩
            refine ⟨_, rfl, ?_⟩
            replace BK712 := bb_ hb BK712
            replace BK713 := bb_ hb BK713
            replace BK718 := bb_ hb BK718
            replace BK719 := bb_ hb BK719
            replace BK723 := bb_ hb BK723
            replace BK727 := bb_ hb BK727
            replace HB := bl_ hb
            try clear hb
            refine hK.out _ _ ⟨c0_ BK718, c1_ BK718, c0_ BK719, c1_ BK719⟩ (fun hHeld => ?_)
            clear hK K
            refine norm_ (a' := ?_) ?_ ?_
            rotate_left
            ·show Act.put _ (some 113) _ = _
             simp only [Act.put, s1_, s2_, s3_, i64_w, i32_w]
             rfl
            refine one_ (i := 5) (N := some 116) #[y_,y_,y_,y_,y_,y_,n_,n_,n_,n_,n_,n_,n_,n_,n_,n_,n_,n_,n_,n_,n_,n_,n_,n_,n_,n_,n_,n_,n_,n_,n_,n_,n_,n_,n_,n_,n_,n_,n_,n_,n_] rfl rfl (one_of HT_.out (by kernel_rfl)) (by decide) (fun K hK => ?_)
            refine goes_ Try.func65 (by kernel_rfl) rfl #[.agg #[.int .u64 t714, .int .u64 t715], .agg #[.int .u64 t716, .int .u64 t717]] (by rfl) rfl rfl (by (try simp only [List.map_toArray, List.map_cons, List.map_nil]); first | done | rfl) ?_
            with_reducible refine (lockgateref04_UAnd.calls kj59 t714 t715 t716 t717 t758 t759 _ A89.out).mono ?_
            rintro e w104 ⟨rfl, hb⟩
            refine ⟨_, rfl, ?_⟩
            replace BK712 := bb_ hb BK712
            replace BK713 := bb_ hb BK713
            replace BK718 := bb_ hb BK718
            replace BK719 := bb_ hb BK719
            replace BK723 := bb_ hb BK723
            replace BK727 := bb_ hb BK727
            replace HB := bl_ hb
            try clear hb
            refine hK.out _ _ ⟨c0_ BK718, c1_ BK718, c0_ BK719, c1_ BK719⟩ (fun hHeld => ?_)
            clear hK K
            refine norm_ (a' := ?_) ?_ ?_
            rotate_left
            ·show Act.put _ (some 116) _ = _
             simp only [Act.put, s1_, s2_, s3_, i64_w, i32_w]
             rfl
            refine pq_ 6 117 #[y_,y_,y_,y_,y_,y_,y_,n_,n_,n_,n_,n_,n_,n_,n_,n_,n_,n_,n_,n_,n_,n_,n_,n_,n_,n_,n_,n_,n_,n_,n_,n_,n_,n_,n_,n_,n_,n_,n_,n_,n_] ?_
            refine pq_ 7 118 #[y_,y_,y_,y_,y_,y_,y_,y_,n_,n_,n_,n_,n_,n_,n_,n_,n_,n_,n_,n_,n_,n_,n_,n_,n_,n_,n_,n_,n_,n_,n_,n_,n_,n_,n_,n_,n_,n_,n_,n_,n_] ?_
            refine tq1_ 8 119 #[y_,y_,y_,y_,y_,y_,y_,y_,y_,n_,n_,n_,n_,n_,n_,n_,n_,n_,n_,n_,n_,n_,n_,n_,n_,n_,n_,n_,n_,n_,n_,n_,n_,n_,n_,n_,n_,n_,n_,n_,n_] hHeld ?_
            refine tq1_ 9 120 #[y_,y_,y_,y_,y_,y_,y_,y_,y_,y_,n_,n_,n_,n_,n_,n_,n_,n_,n_,n_,n_,n_,n_,n_,n_,n_,n_,n_,n_,n_,n_,n_,n_,n_,n_,n_,n_,n_,n_,n_,n_] hHeld ?_
            refine tq1_ 11 122 #[y_,y_,y_,y_,y_,y_,y_,y_,y_,y_,n_,y_,n_,n_,n_,n_,n_,n_,n_,n_,n_,n_,n_,n_,n_,n_,n_,n_,n_,n_,n_,n_,n_,n_,n_,n_,n_,n_,n_,n_,n_] hHeld ?_
            refine tq1_ 12 123 #[y_,y_,y_,y_,y_,y_,y_,y_,y_,y_,n_,y_,y_,n_,n_,n_,n_,n_,n_,n_,n_,n_,n_,n_,n_,n_,n_,n_,n_,n_,n_,n_,n_,n_,n_,n_,n_,n_,n_,n_,n_] hHeld ?_
            refine one_ (i := 10) (N := some 121) #[y_,y_,y_,y_,y_,y_,y_,y_,y_,y_,y_,y_,y_,n_,n_,n_,n_,n_,n_,n_,n_,n_,n_,n_,n_,n_,n_,n_,n_,n_,n_,n_,n_,n_,n_,n_,n_,n_,n_,n_,n_] rfl rfl (one_of HT_.out (by kernel_rfl)) (by decide) (fun K hK => ?_)
            refine goes_ Try.func46 (by kernel_rfl) rfl #[.agg #[.int .u64 t714, .int .u64 t715], .agg #[.int .u64 t716, .int .u64 t717]] (by rfl) rfl rfl (by (try simp only [List.map_toArray, List.map_cons, List.map_nil]); first | done | rfl) ?_
            with_reducible refine (span_UOr.calls kj59 t714 t715 t716 t717 t760 t761 _ A91.out).mono ?_
            rintro e w105 ⟨rfl, hb⟩
            refine ⟨_, rfl, ?_⟩
            replace BK712 := bb_ hb BK712
            replace BK713 := bb_ hb BK713
            replace BK718 := bb_ hb BK718
            replace BK719 := bb_ hb BK719
            replace BK723 := bb_ hb BK723
            replace BK727 := bb_ hb BK727
            replace HB := bl_ hb
            try clear hb
            refine hK.out _ _ ⟨c0_ BK718, c1_ BK718, c0_ BK719, c1_ BK719⟩ (fun hHeld => ?_)
            clear hK K
            refine norm_ (a' := ?_) ?_ ?_
            rotate_left
            ·show Act.put _ (some 121) _ = _
             simp only [Act.put, s1_, s2_, s3_, i64_w, i32_w]
             rfl
            refine one_ (i := 13) (N := some 124) #[y_,y_,y_,y_,y_,y_,y_,y_,y_,y_,y_,y_,y_,y_,n_,n_,n_,n_,n_,n_,n_,n_,n_,n_,n_,n_,n_,n_,n_,n_,n_,n_,n_,n_,n_,n_,n_,n_,n_,n_,n_] rfl rfl (one_of HT_.out (by kernel_rfl)) (by decide) (fun K hK => ?_)
            refine goes_ Try.func66 (by kernel_rfl) rfl #[.agg #[.int .u64 t714, .int .u64 t715], .agg #[.int .u64 t716, .int .u64 t717]] (by rfl) rfl rfl (by (try simp only [List.map_toArray, List.map_cons, List.map_nil]); first | done | rfl) ?_
            with_reducible refine (lockgateref04_UOr.calls kj59 t714 t715 t716 t717 t762 t763 _ A92.out).mono ?_
            rintro e w106 ⟨rfl, hb⟩
            refine ⟨_, rfl, ?_⟩
            replace BK712 := bb_ hb BK712
            replace BK713 := bb_ hb BK713
            replace BK718 := bb_ hb BK718
            replace BK719 := bb_ hb BK719
            replace BK723 := bb_ hb BK723
            replace BK727 := bb_ hb BK727
            replace HB := bl_ hb
            try clear hb
            refine hK.out _ _ ⟨c0_ BK718, c1_ BK718, c0_ BK719, c1_ BK719⟩ (fun hHeld => ?_)
            clear hK K
            refine norm_ (a' := ?_) ?_ ?_
            rotate_left
            ·show Act.put _ (some 124) _ = _
             simp only [Act.put, s1_, s2_, s3_, i64_w, i32_w]
             rfl
            refine pq_ 14 125 #[y_,y_,y_,y_,y_,y_,y_,y_,y_,y_,y_,y_,y_,y_,y_,n_,n_,n_,n_,n_,n_,n_,n_,n_,n_,n_,n_,n_,n_,n_,n_,n_,n_,n_,n_,n_,n_,n_,n_,n_,n_] ?_
            refine pq_ 15 126 #[y_,y_,y_,y_,y_,y_,y_,y_,y_,y_,y_,y_,y_,y_,y_,y_,n_,n_,n_,n_,n_,n_,n_,n_,n_,n_,n_,n_,n_,n_,n_,n_,n_,n_,n_,n_,n_,n_,n_,n_,n_] ?_
            refine pq_ 16 127 #[y_,y_,y_,y_,y_,y_,y_,y_,y_,y_,y_,y_,y_,y_,y_,y_,y_,n_,n_,n_,n_,n_,n_,n_,n_,n_,n_,n_,n_,n_,n_,n_,n_,n_,n_,n_,n_,n_,n_,n_,n_] ?_
            refine pq_ 18 129 #[y_,y_,y_,y_,y_,y_,y_,y_,y_,y_,y_,y_,y_,y_,y_,y_,y_,n_,y_,n_,n_,n_,n_,n_,n_,n_,n_,n_,n_,n_,n_,n_,n_,n_,n_,n_,n_,n_,n_,n_,n_] ?_
            refine pq_ 21 132 #[y_,y_,y_,y_,y_,y_,y_,y_,y_,y_,y_,y_,y_,y_,y_,y_,y_,n_,y_,n_,n_,y_,n_,n_,n_,n_,n_,n_,n_,n_,n_,n_,n_,n_,n_,n_,n_,n_,n_,n_,n_] ?_
            refine tq1_ 17 128 #[y_,y_,y_,y_,y_,y_,y_,y_,y_,y_,y_,y_,y_,y_,y_,y_,y_,y_,y_,n_,n_,y_,n_,n_,n_,n_,n_,n_,n_,n_,n_,n_,n_,n_,n_,n_,n_,n_,n_,n_,n_] hHeld ?_
            refine tq1_ 20 131 #[y_,y_,y_,y_,y_,y_,y_,y_,y_,y_,y_,y_,y_,y_,y_,y_,y_,y_,y_,n_,y_,y_,n_,n_,n_,n_,n_,n_,n_,n_,n_,n_,n_,n_,n_,n_,n_,n_,n_,n_,n_] hHeld ?_
            refine one_ (i := 19) (N := some 130) #[y_,y_,y_,y_,y_,y_,y_,y_,y_,y_,y_,y_,y_,y_,y_,y_,y_,y_,y_,y_,y_,y_,n_,n_,n_,n_,n_,n_,n_,n_,n_,n_,n_,n_,n_,n_,n_,n_,n_,n_,n_] rfl rfl (one_of HT_.out (by kernel_rfl)) (by decide) (fun K hK => ?_)
            refine goes_ Try.func55 (by kernel_rfl) rfl #[.agg #[.int .u64 t714, .int .u64 t715], .int .i64 a2] (by rfl) rfl rfl (by (try simp only [List.map_toArray, List.map_cons, List.map_nil]); first | done | rfl) ?_
            with_reducible refine (span_ULsh.calls t714 t715 a2 t764 t765 _ A94.out).mono ?_
            rintro e w107 ⟨rfl, hb⟩
            refine ⟨_, rfl, ?_⟩
            replace BK712 := bb_ hb BK712
            replace BK713 := bb_ hb BK713
            replace BK718 := bb_ hb BK718
            replace BK719 := bb_ hb BK719
            replace BK723 := bb_ hb BK723
            replace BK727 := bb_ hb BK727
            replace HB := bl_ hb
            try clear hb
            refine hK.out _ _ ⟨c0_ BK718, c1_ BK718, c0_ BK719, c1_ BK719⟩ (fun hHeld => ?_)
            clear hK K
            refine norm_ (a' := ?_) ?_ ?_
            rotate_left
            ·show Act.put _ (some 130) _ = _
             simp only [Act.put, s1_, s2_, s3_, i64_w, i32_w]
             rfl
            refine one_ (i := 22) (N := some 133) #[y_,y_,y_,y_,y_,y_,y_,y_,y_,y_,y_,y_,y_,y_,y_,y_,y_,y_,y_,y_,y_,y_,y_,n_,n_,n_,n_,n_,n_,n_,n_,n_,n_,n_,n_,n_,n_,n_,n_,n_,n_] rfl rfl (one_of HT_.out (by kernel_rfl)) (by decide) (fun K hK => ?_)
            refine goes_ Try.func67 (by kernel_rfl) rfl #[.agg #[.int .u64 t714, .int .u64 t715], .int .i64 a2] (by rfl) rfl rfl (by (try simp only [List.map_toArray, List.map_cons, List.map_nil]); first | done | rfl) ?_
            with_reducible refine (lockgateref04_ULsh.calls kj59 t714 t715 a2 t766 t767 _ A95.out).mono ?_
            rintro e w108 ⟨rfl, hb⟩
            refine ⟨_, rfl, ?_⟩
            replace BK712 := bb_ hb BK712
            replace BK713 := bb_ hb BK713
            replace BK718 := bb_ hb BK718
            replace BK719 := bb_ hb BK719
            replace BK723 := bb_ hb BK723
            replace BK727 := bb_ hb BK727
            replace HB := bl_ hb
            try clear hb
            refine hK.out _ _ ⟨c0_ BK718, c1_ BK718, c0_ BK719, c1_ BK719⟩ (fun hHeld => ?_)
            clear hK K
            refine norm_ (a' := ?_) ?_ ?_
            rotate_left
            ·show Act.put _ (some 133) _ = _
             simp only [Act.put, s1_, s2_, s3_, i64_w, i32_w]
             rfl
            refine pq_ 23 134 #[y_,y_,y_,y_,y_,y_,y_,y_,y_,y_,y_,y_,y_,y_,y_,y_,y_,y_,y_,y_,y_,y_,y_,y_,n_,n_,n_,n_,n_,n_,n_,n_,n_,n_,n_,n_,n_,n_,n_,n_,n_] ?_
            refine pq_ 24 135 #[y_,y_,y_,y_,y_,y_,y_,y_,y_,y_,y_,y_,y_,y_,y_,y_,y_,y_,y_,y_,y_,y_,y_,y_,y_,n_,n_,n_,n_,n_,n_,n_,n_,n_,n_,n_,n_,n_,n_,n_,n_] ?_
            refine pq_ 25 136 #[y_,y_,y_,y_,y_,y_,y_,y_,y_,y_,y_,y_,y_,y_,y_,y_,y_,y_,y_,y_,y_,y_,y_,y_,y_,y_,n_,n_,n_,n_,n_,n_,n_,n_,n_,n_,n_,n_,n_,n_,n_] ?_
            refine pq_ 27 138 #[y_,y_,y_,y_,y_,y_,y_,y_,y_,y_,y_,y_,y_,y_,y_,y_,y_,y_,y_,y_,y_,y_,y_,y_,y_,y_,n_,y_,n_,n_,n_,n_,n_,n_,n_,n_,n_,n_,n_,n_,n_] ?_
            refine pq_ 30 141 #[y_,y_,y_,y_,y_,y_,y_,y_,y_,y_,y_,y_,y_,y_,y_,y_,y_,y_,y_,y_,y_,y_,y_,y_,y_,y_,n_,y_,n_,n_,y_,n_,n_,n_,n_,n_,n_,n_,n_,n_,n_] ?_
            refine tq1_ 26 137 #[y_,y_,y_,y_,y_,y_,y_,y_,y_,y_,y_,y_,y_,y_,y_,y_,y_,y_,y_,y_,y_,y_,y_,y_,y_,y_,y_,y_,n_,n_,y_,n_,n_,n_,n_,n_,n_,n_,n_,n_,n_] hHeld ?_
            refine tq1_ 29 140 #[y_,y_,y_,y_,y_,y_,y_,y_,y_,y_,y_,y_,y_,y_,y_,y_,y_,y_,y_,y_,y_,y_,y_,y_,y_,y_,y_,y_,n_,y_,y_,n_,n_,n_,n_,n_,n_,n_,n_,n_,n_] hHeld ?_
            refine one_ (i := 28) (N := some 139) #[y_,y_,y_,y_,y_,y_,y_,y_,y_,y_,y_,y_,y_,y_,y_,y_,y_,y_,y_,y_,y_,y_,y_,y_,y_,y_,y_,y_,y_,y_,y_,n_,n_,n_,n_,n_,n_,n_,n_,n_,n_] rfl rfl (one_of HT_.out (by kernel_rfl)) (by decide) (fun K hK => ?_)
            refine goes_ Try.func47 (by kernel_rfl) rfl #[.agg #[.int .u64 t714, .int .u64 t715], .int .i64 a2] (by rfl) rfl rfl (by (try simp only [List.map_toArray, List.map_cons, List.map_nil]); first | done | rfl) ?_
            with_reducible refine (span_URsh.calls t714 t715 a2 t768 t769 _ A97.out).mono ?_
            rintro e w109 ⟨rfl, hb⟩
            refine ⟨_, rfl, ?_⟩
            replace BK712 := bb_ hb BK712
            replace BK713 := bb_ hb BK713
            replace BK718 := bb_ hb BK718
            replace BK719 := bb_ hb BK719
            replace BK723 := bb_ hb BK723
            replace BK727 := bb_ hb BK727
            replace HB := bl_ hb
            try clear hb
            refine hK.out _ _ ⟨c0_ BK718, c1_ BK718, c0_ BK719, c1_ BK719⟩ (fun hHeld => ?_)
            clear hK K
            refine norm_ (a' := ?_) ?_ ?_
            rotate_left
            ·show Act.put _ (some 139) _ = _
             simp only [Act.put, s1_, s2_, s3_, i64_w, i32_w]
             rfl
            refine one_ (i := 31) (N := some 142) #[y_,y_,y_,y_,y_,y_,y_,y_,y_,y_,y_,y_,y_,y_,y_,y_,y_,y_,y_,y_,y_,y_,y_,y_,y_,y_,y_,y_,y_,y_,y_,y_,n_,n_,n_,n_,n_,n_,n_,n_,n_] rfl rfl (one_of HT_.out (by kernel_rfl)) (by decide) (fun K hK => ?_)
            refine goes_ Try.func68 (by kernel_rfl) rfl #[.agg #[.int .u64 t714, .int .u64 t715], .int .i64 a2] (by rfl) rfl rfl (by (try simp only [List.map_toArray, List.map_cons, List.map_nil]); first | done | rfl) ?_
            with_reducible refine (lockgateref04_URsh.calls kj59 t714 t715 a2 t770 t771 _ A98.out).mono ?_
            rintro e w110 ⟨rfl, hb⟩
            refine ⟨_, rfl, ?_⟩
            replace BK712 := bb_ hb BK712
            replace BK713 := bb_ hb BK713
            replace BK718 := bb_ hb BK718
            replace BK719 := bb_ hb BK719
            replace BK723 := bb_ hb BK723
            replace BK727 := bb_ hb BK727
            replace HB := bl_ hb
            try clear hb
            refine hK.out _ _ ⟨c0_ BK718, c1_ BK718, c0_ BK719, c1_ BK719⟩ (fun hHeld => ?_)
            clear hK K
            refine norm_ (a' := ?_) ?_ ?_
            rotate_left
            ·show Act.put _ (some 142) _ = _
             simp only [Act.put, s1_, s2_, s3_, i64_w, i32_w]
             rfl
            refine pq_ 32 143 #[y_,y_,y_,y_,y_,y_,y_,y_,y_,y_,y_,y_,y_,y_,y_,y_,y_,y_,y_,y_,y_,y_,y_,y_,y_,y_,y_,y_,y_,y_,y_,y_,y_,n_,n_,n_,n_,n_,n_,n_,n_] ?_
            refine pq_ 33 144 #[y_,y_,y_,y_,y_,y_,y_,y_,y_,y_,y_,y_,y_,y_,y_,y_,y_,y_,y_,y_,y_,y_,y_,y_,y_,y_,y_,y_,y_,y_,y_,y_,y_,y_,n_,n_,n_,n_,n_,n_,n_] ?_
            refine pq_ 34 145 #[y_,y_,y_,y_,y_,y_,y_,y_,y_,y_,y_,y_,y_,y_,y_,y_,y_,y_,y_,y_,y_,y_,y_,y_,y_,y_,y_,y_,y_,y_,y_,y_,y_,y_,y_,n_,n_,n_,n_,n_,n_] ?_
            refine tq1_ 35 146 #[y_,y_,y_,y_,y_,y_,y_,y_,y_,y_,y_,y_,y_,y_,y_,y_,y_,y_,y_,y_,y_,y_,y_,y_,y_,y_,y_,y_,y_,y_,y_,y_,y_,y_,y_,y_,n_,n_,n_,n_,n_] hHeld ?_
            refine tq1_ 37 148 #[y_,y_,y_,y_,y_,y_,y_,y_,y_,y_,y_,y_,y_,y_,y_,y_,y_,y_,y_,y_,y_,y_,y_,y_,y_,y_,y_,y_,y_,y_,y_,y_,y_,y_,y_,y_,n_,y_,n_,n_,n_] hHeld ?_
            refine one_ (i := 36) (N := some 147) #[y_,y_,y_,y_,y_,y_,y_,y_,y_,y_,y_,y_,y_,y_,y_,y_,y_,y_,y_,y_,y_,y_,y_,y_,y_,y_,y_,y_,y_,y_,y_,y_,y_,y_,y_,y_,y_,y_,n_,n_,n_] rfl rfl (one_of HT_.out (by kernel_rfl)) (by decide) (fun K hK => ?_)
            refine goes_ Try.func48 (by kernel_rfl) rfl #[.agg #[.int .u64 t714, .int .u64 t715]] (by rfl) rfl rfl (by (try simp only [List.map_toArray, List.map_cons, List.map_nil]); first | done | rfl) ?_
            with_reducible refine (span_UCut.calls t714 t715 t772 t773 _ A100.out).mono ?_
            rintro e w111 ⟨rfl, hb⟩
            refine ⟨_, rfl, ?_⟩
            replace BK712 := bb_ hb BK712
            replace BK713 := bb_ hb BK713
            replace BK718 := bb_ hb BK718
            replace BK719 := bb_ hb BK719
            replace BK723 := bb_ hb BK723
            replace BK727 := bb_ hb BK727
            replace HB := bl_ hb
            try clear hb
            refine hK.out _ _ ⟨c0_ BK718, c1_ BK718, c0_ BK719, c1_ BK719⟩ (fun hHeld => ?_)
            clear hK K
            refine norm_ (a' := ?_) ?_ ?_
            rotate_left
            ·show Act.put _ (some 147) _ = _
             simp only [Act.put, s1_, s2_, s3_, i64_w, i32_w]
             rfl
            refine one_ (i := 38) (N := some 149) #[y_,y_,y_,y_,y_,y_,y_,y_,y_,y_,y_,y_,y_,y_,y_,y_,y_,y_,y_,y_,y_,y_,y_,y_,y_,y_,y_,y_,y_,y_,y_,y_,y_,y_,y_,y_,y_,y_,y_,n_,n_] rfl rfl (one_of HT_.out (by kernel_rfl)) (by decide) (fun K hK => ?_)
            refine goes_ Try.func69 (by kernel_rfl) rfl #[.agg #[.int .u64 t714, .int .u64 t715]] (by rfl) rfl rfl (by (try simp only [List.map_toArray, List.map_cons, List.map_nil]); first | done | rfl) ?_
            with_reducible refine (lockgateref04_UCut.calls t714 t715 t774 t775 _ A101.out).mono ?_
            rintro e w112 ⟨rfl, hb⟩
            refine ⟨_, rfl, ?_⟩
            replace BK712 := bb_ hb BK712
            replace BK713 := bb_ hb BK713
            replace BK718 := bb_ hb BK718
            replace BK719 := bb_ hb BK719
            replace BK723 := bb_ hb BK723
            replace BK727 := bb_ hb BK727
            replace HB := bl_ hb
            try clear hb
            refine hK.out _ _ ⟨c0_ BK718, c1_ BK718, c0_ BK719, c1_ BK719⟩ (fun hHeld => ?_)
            clear hK K
            refine norm_ (a' := ?_) ?_ ?_
            rotate_left
            ·show Act.put _ (some 149) _ = _
             simp only [Act.put, s1_, s2_, s3_, i64_w, i32_w]
             rfl
            refine pq_ 39 150 #[y_,y_,y_,y_,y_,y_,y_,y_,y_,y_,y_,y_,y_,y_,y_,y_,y_,y_,y_,y_,y_,y_,y_,y_,y_,y_,y_,y_,y_,y_,y_,y_,y_,y_,y_,y_,y_,y_,y_,y_,n_] ?_
            refine pq_ 40 151 #[y_,y_,y_,y_,y_,y_,y_,y_,y_,y_,y_,y_,y_,y_,y_,y_,y_,y_,y_,y_,y_,y_,y_,y_,y_,y_,y_,y_,y_,y_,y_,y_,y_,y_,y_,y_,y_,y_,y_,y_,y_] ?_
            refine done_ (done_of HT_.out (by kernel_rfl)) ?_
            try go_wp2
            go_meet
            case rel => exact ⟨_, ((!(t772 == t774) || (!(t773 == t775)))), (by first | rfl | (simp; done) | (simp [*]; done)), H', ⟨by have := HJ7.out; have := HJ59.out; first | omega | exact Nat.le_refl _⟩, ⟨by exact bk_⟩, ⟨by exact bk_⟩, ⟨by exact bk_⟩, ⟨by exact bk_⟩, ⟨by exact bk_⟩, ⟨by exact bk_⟩, ⟨by repeat (first | (with_reducible first | exact HB.out | apply lA_ | apply lN_ | apply lD_ | refine lS_ ?_ GE712.out | refine lS_ ?_ GE713.out | refine lS_ ?_ GE718.out | refine lS_ ?_ GE719.out | refine lS_ ?_ GE723.out | refine lS_ ?_ GE727.out) | exact HB.out)⟩⟩
       case rest =>
        clear HC87
        try clear p2
        try clear c4
        try clear c5
        try clear c6
        try clear c46
        try clear c47
        try clear c48
        try clear c55
        try clear c65
        try clear c66
        try clear c67
        try clear c68
        try clear c69
        obtain ⟨kq, x151_86, rfl, HA, HJ86, BK712, BK713, BK718, BK719, BK723, BK727, HB⟩ := hcut
        cases kq with
        | zero => exact absurd HA.out (by simp [lockgatelaw04_SpanUnsigned.j2])
        | succ kj86 =>
         have H := HA.out
         clear HA
         simp only [lockgatelaw04_SpanUnsigned.j2] at H
         by_cases c113 : x151_86 = true
         ·subst c113
          have H1 : (some false) = some r := by rw [if_pos rfl] at H; exact H
          clear H
          have H := H1
          clear H1
          exact absurd ((Option.some.inj H).trans HRT.out) (by decide)
         ·replace c113 := Bool.eq_false_iff.mpr c113
          subst c113
          have H1 : ((span_ToS.f t714 t715).bind fun bt776 => ((lockgateref04_ToS.f t714 t715).bind fun bt778 => (if (bt776.1 == bt778.1 && (bt776.2 == bt778.2)) = true then ((span_ToT.f kj86 t714 t715).bind fun bt780 => ((lockgateref04_ToT.f kj86 t714 t715).bind fun bt782 => (if (bt780.1 == bt782.1 && (bt780.2 == bt782.2)) = true then ((span_UAll.f).bind fun bt784 => ((lockgateref04_UAll.f).bind fun bt786 => (if (bt784.1 == bt786.1 && (bt784.2 == bt786.2)) = true then ((span_UOf.f a3).bind fun bt788 => ((lockgateref04_UOf.f a3).bind fun bt790 => (if (bt788.1 == bt790.1 && (bt788.2 == bt790.2)) = true then ((lockgatelaw04_works.f kj86).bind fun t792 => (some t792)) else (some false)))) else (some false)))) else (some false)))) else (some false)))) = some r := by rw [if_neg (show ¬ (false = true) by decide)] at H; exact H
          clear H
          have H := H1
          clear H1
          replace H := Option.bind_eq_some_iff.mp H
          obtain ⟨⟨t776, t777⟩, A1140, H⟩ := H
          replace H : ((lockgateref04_ToS.f t714 t715).bind fun bt778 => (if (t776 == bt778.1 && (t777 == bt778.2)) = true then ((span_ToT.f kj86 t714 t715).bind fun bt780 => ((lockgateref04_ToT.f kj86 t714 t715).bind fun bt782 => (if (bt780.1 == bt782.1 && (bt780.2 == bt782.2)) = true then ((span_UAll.f).bind fun bt784 => ((lockgateref04_UAll.f).bind fun bt786 => (if (bt784.1 == bt786.1 && (bt784.2 == bt786.2)) = true then ((span_UOf.f a3).bind fun bt788 => ((lockgateref04_UOf.f a3).bind fun bt790 => (if (bt788.1 == bt790.1 && (bt788.2 == bt790.2)) = true then ((lockgatelaw04_works.f kj86).bind fun t792 => (some t792)) else (some false)))) else (some false)))) else (some false)))) else (some false))) = some r := H
          have A114 := Aside0.mk A1140
          clear A1140
          replace H := Option.bind_eq_some_iff.mp H
          obtain ⟨⟨t778, t779⟩, A1150, H⟩ := H
          replace H : (if (t776 == t778 && (t777 == t779)) = true then ((span_ToT.f kj86 t714 t715).bind fun bt780 => ((lockgateref04_ToT.f kj86 t714 t715).bind fun bt782 => (if (bt780.1 == bt782.1 && (bt780.2 == bt782.2)) = true then ((span_UAll.f).bind fun bt784 => ((lockgateref04_UAll.f).bind fun bt786 => (if (bt784.1 == bt786.1 && (bt784.2 == bt786.2)) = true then ((span_UOf.f a3).bind fun bt788 => ((lockgateref04_UOf.f a3).bind fun bt790 => (if (bt788.1 == bt790.1 && (bt788.2 == bt790.2)) = true then ((lockgatelaw04_works.f kj86).bind fun t792 => (some t792)) else (some false)))) else (some false)))) else (some false)))) else (some false)) = some r := H
          have A115 := Aside0.mk A1150
          clear A1150
          by_cases c116 : (t776 == t778 && (t777 == t779)) = true
          ·rw [if_pos c116] at H
           have c116b0 : (t776 == t778 && (t777 == t779)) = true := c116
           (try (have c116b1 : decide (t776 = t778 && (t777 == t779)) = true := by simpa using c116))
           (try (have c116b2 : (t776 == t778 && (t777 == t779)) = true := by simpa using c116))
           clear c116
           replace H := Option.bind_eq_some_iff.mp H
           obtain ⟨⟨t780, t781⟩, A1170, H⟩ := H
           replace H : ((lockgateref04_ToT.f kj86 t714 t715).bind fun bt782 => (if (t780 == bt782.1 && (t781 == bt782.2)) = true then ((span_UAll.f).bind fun bt784 => ((lockgateref04_UAll.f).bind fun bt786 => (if (bt784.1 == bt786.1 && (bt784.2 == bt786.2)) = true then ((span_UOf.f a3).bind fun bt788 => ((lockgateref04_UOf.f a3).bind fun bt790 => (if (bt788.1 == bt790.1 && (bt788.2 == bt790.2)) = true then ((lockgatelaw04_works.f kj86).bind fun t792 => (some t792)) else (some false)))) else (some false)))) else (some false))) = some r := H
           have A117 := Aside0.mk A1170
           clear A1170
           replace H := Option.bind_eq_some_iff.mp H
           obtain ⟨⟨t782, t783⟩, A1180, H⟩ := H
           replace H : (if (t780 == t782 && (t781 == t783)) = true then ((span_UAll.f).bind fun bt784 => ((lockgateref04_UAll.f).bind fun bt786 => (if (bt784.1 == bt786.1 && (bt784.2 == bt786.2)) = true then ((span_UOf.f a3).bind fun bt788 => ((lockgateref04_UOf.f a3).bind fun bt790 => (if (bt788.1 == bt790.1 && (bt788.2 == bt790.2)) = true then ((lockgatelaw04_works.f kj86).bind fun t792 => (some t792)) else (some false)))) else (some false)))) else (some false)) = some r := H
           have A118 := Aside0.mk A1180
           clear A1180
           by_cases c119 : (t780 == t782 && (t781 == t783)) = true
           ·rw [if_pos c119] at H
            have c119b0 : (t780 == t782 && (t781 == t783)) = true := c119
            (try (have c119b1 : decide (t780 = t782 && (t781 == t783)) = true := by simpa using c119))
            (try (have c119b2 : (t780 == t782 && (t781 == t783)) = true := by simpa using c119))
            clear c119
            replace H := Option.bind_eq_some_iff.mp H
            obtain ⟨⟨t784, t785⟩, A1200, H⟩ := H
            replace H : ((lockgateref04_UAll.f).bind fun bt786 => (if (t784 == bt786.1 && (t785 == bt786.2)) = true then ((span_UOf.f a3).bind fun bt788 => ((lockgateref04_UOf.f a3).bind fun bt790 => (if (bt788.1 == bt790.1 && (bt788.2 == bt790.2)) = true then ((lockgatelaw04_works.f kj86).bind fun t792 => (some t792)) else (some false)))) else (some false))) = some r := H
            have A120 := Aside0.mk A1200
            clear A1200
            replace H := Option.bind_eq_some_iff.mp H
            obtain ⟨⟨t786, t787⟩, A1210, H⟩ := H
            replace H : (if (t784 == t786 && (t785 == t787)) = true then ((span_UOf.f a3).bind fun bt788 => ((lockgateref04_UOf.f a3).bind fun bt790 => (if (bt788.1 == bt790.1 && (bt788.2 == bt790.2)) = true then ((lockgatelaw04_works.f kj86).bind fun t792 => (some t792)) else (some false)))) else (some false)) = some r := H
            have A121 := Aside0.mk A1210
            clear A1210
            by_cases c122 : (t784 == t786 && (t785 == t787)) = true
            ·rw [if_pos c122] at H
             have c122b0 : (t784 == t786 && (t785 == t787)) = true := c122
             (try (have c122b1 : decide (t784 = t786 && (t785 == t787)) = true := by simpa using c122))
             (try (have c122b2 : (t784 == t786 && (t785 == t787)) = true := by simpa using c122))
             clear c122
             replace H := Option.bind_eq_some_iff.mp H
             obtain ⟨⟨t788, t789⟩, A1230, H⟩ := H
             replace H : ((lockgateref04_UOf.f a3).bind fun bt790 => (if (t788 == bt790.1 && (t789 == bt790.2)) = true then ((lockgatelaw04_works.f kj86).bind fun t792 => (some t792)) else (some false))) = some r := H
             have A123 := Aside0.mk A1230
             clear A1230
             replace H := Option.bind_eq_some_iff.mp H
             obtain ⟨⟨t790, t791⟩, A1240, H⟩ := H
             replace H : (if (t788 == t790 && (t789 == t791)) = true then ((lockgatelaw04_works.f kj86).bind fun t792 => (some t792)) else (some false)) = some r := H
             have A124 := Aside0.mk A1240
             clear A1240
             by_cases c125 : (t788 == t790 && (t789 == t791)) = true
             ·rw [if_pos c125] at H
              have c125b0 : (t788 == t790 && (t789 == t791)) = true := c125
              (try (have c125b1 : decide (t788 = t790 && (t789 == t791)) = true := by simpa using c125))
              (try (have c125b2 : (t788 == t790 && (t789 == t791)) = true := by simpa using c125))
              clear c125
              replace H := Option.bind_eq_some_iff.mp H
              obtain ⟨t792, A1260, H⟩ := H
              replace H : (some t792) = some r := H
              have A126 := Aside0.mk A1260
              clear A1260
              obtain rfl := Option.some.inj H
              try go_wp2
              replace BK712 := Aside0.mk (blk_drew BK712.out)
              replace BK713 := Aside0.mk (blk_drew BK713.out)
              replace BK718 := Aside0.mk (blk_drew BK718.out)
              replace BK719 := Aside0.mk (blk_drew BK719.out)
              replace BK723 := Aside0.mk (blk_drew BK723.out)
              replace BK727 := Aside0.mk (blk_drew BK727.out)
              replace HB := Aside0.mk (below_drew1 HB.out)
              refine start_ (n := 28) (S := fun w' => w'.cell? ⟨gb718, 0, none⟩ = some (.int .u64 t714) ∧ w'.cell? ⟨gb718, 1, none⟩ = some (.int .u64 t715)) (ds := []) #[n_,n_,n_,n_,n_,n_,n_,n_,n_,n_,n_,n_,n_,n_,n_,n_,n_,n_,n_,n_,n_,n_,n_,n_,n_,n_,n_,n_] (by kernel_rfl) rfl rfl ⟨c0_ BK718, c1_ BK718⟩ (fun hHeld => ?_); refine with_tabW lockgatelaw04_SpanUnsigned.tab10 lockgatelaw04_SpanUnsigned.bits10 (fun HT_ HW_ => ?_)
              generalize wc.drew = w127 at BK712 BK713 BK718 BK719 BK723 BK727 HB hHeld ⊢
              refine tq0_ 0 152 #[y_,n_,n_,n_,n_,n_,n_,n_,n_,n_,n_,n_,n_,n_,n_,n_,n_,n_,n_,n_,n_,n_,n_,n_,n_,n_,n_,n_] hHeld ?_
              refine tq0_ 2 154 #[y_,n_,y_,n_,n_,n_,n_,n_,n_,n_,n_,n_,n_,n_,n_,n_,n_,n_,n_,n_,n_,n_,n_,n_,n_,n_,n_,n_] hHeld ?_
              refine one_ (i := 1) (N := some 153) #[y_,y_,y_,n_,n_,n_,n_,n_,n_,n_,n_,n_,n_,n_,n_,n_,n_,n_,n_,n_,n_,n_,n_,n_,n_,n_,n_,n_] rfl rfl (one_of HT_.out (by kernel_rfl)) (by decide) (fun K hK => ?_)
              refine goes_ Try.func49 (by kernel_rfl) rfl #[.agg #[.int .u64 t714, .int .u64 t715]] (by rfl) rfl rfl (by (try simp only [List.map_toArray, List.map_cons, List.map_nil]); first | done | rfl) ?_
              with_reducible refine (span_ToS.calls t714 t715 t776 t777 _ A114.out).mono ?_
              rintro e w128 ⟨rfl, hb⟩
              refine ⟨_, rfl, ?_⟩
              replace BK712 := bb_ hb BK712
              replace BK713 := bb_ hb BK713
              replace BK718 := bb_ hb BK718
              replace BK719 := bb_ hb BK719
              replace BK723 := bb_ hb BK723
              replace BK727 := bb_ hb BK727
              replace HB := bl_ hb
              try clear hb
              refine hK.out _ _ ⟨c0_ BK718, c1_ BK718⟩ (fun hHeld => ?_)
              clear hK K
              refine norm_ (a' := ?_) ?_ ?_
              rotate_left
              ·show Act.put _ (some 153) _ = _
               simp only [Act.put, s1_, s2_, s3_, i64_w, i32_w]
               rfl
              refine one_ (i := 3) (N := some 155) #[y_,y_,y_,y_,n_,n_,n_,n_,n_,n_,n_,n_,n_,n_,n_,n_,n_,n_,n_,n_,n_,n_,n_,n_,n_,n_,n_,n_] rfl rfl (one_of HT_.out (by kernel_rfl)) (by decide) (fun K hK => ?_)
              refine goes_ Try.func70 (by kernel_rfl) rfl #[.agg #[.int .u64 t714, .int .u64 t715]] (by rfl) rfl rfl (by (try simp only [List.map_toArray, List.map_cons, List.map_nil]); first | done | rfl) ?_
              with_reducible refine (lockgateref04_ToS.calls t714 t715 t778 t779 _ A115.out).mono ?_
              rintro e w129 ⟨rfl, hb⟩
              refine ⟨_, rfl, ?_⟩
              replace BK712 := bb_ hb BK712
              replace BK713 := bb_ hb BK713
              replace BK718 := bb_ hb BK718
              replace BK719 := bb_ hb BK719
              replace BK723 := bb_ hb BK723
              replace BK727 := bb_ hb BK727
              replace HB := bl_ hb
              try clear hb
              refine hK.out _ _ ⟨c0_ BK718, c1_ BK718⟩ (fun hHeld => ?_)
              clear hK K
              refine norm_ (a' := ?_) ?_ ?_
              rotate_left
              ·show Act.put _ (some 155) _ = _
               simp only [Act.put, s1_, s2_, s3_, i64_w, i32_w]
               rfl
              refine pq_ 4 156 #[y_,y_,y_,y_,y_,n_,n_,n_,n_,n_,n_,n_,n_,n_,n_,n_,n_,n_,n_,n_,n_,n_,n_,n_,n_,n_,n_,n_] ?_
              refine pq_ 5 157 #[y_,y_,y_,y_,y_,y_,n_,n_,n_,n_,n_,n_,n_,n_,n_,n_,n_,n_,n_,n_,n_,n_,n_,n_,n_,n_,n_,n_] ?_
              refine tq0_ 6 158 #[y_,y_,y_,y_,y_,y_,y_,n_,n_,n_,n_,n_,n_,n_,n_,n_,n_,n_,n_,n_,n_,n_,n_,n_,n_,n_,n_,n_] hHeld ?_
              refine tq0_ 8 160 #[y_,y_,y_,y_,y_,y_,y_,n_,y_,n_,n_,n_,n_,n_,n_,n_,n_,n_,n_,n_,n_,n_,n_,n_,n_,n_,n_,n_] hHeld ?_
              refine one_ (i := 7) (N := some 159) #[y_,y_,y_,y_,y_,y_,y_,y_,y_,n_,n_,n_,n_,n_,n_,n_,n_,n_,n_,n_,n_,n_,n_,n_,n_,n_,n_,n_] rfl rfl (one_of HT_.out (by kernel_rfl)) (by decide) (fun K hK => ?_)
              refine goes_ Try.func50 (by kernel_rfl) rfl #[.agg #[.int .u64 t714, .int .u64 t715]] (by rfl) rfl rfl (by (try simp only [List.map_toArray, List.map_cons, List.map_nil]); first | done | rfl) ?_
              with_reducible refine (span_ToT.calls kj86 t714 t715 t780 t781 _ A117.out).mono ?_
              rintro e w130 ⟨rfl, hb⟩
              refine ⟨_, rfl, ?_⟩
              replace BK712 := bb_ hb BK712
              replace BK713 := bb_ hb BK713
              replace BK718 := bb_ hb BK718
              replace BK719 := bb_ hb BK719
              replace BK723 := bb_ hb BK723
              replace BK727 := bb_ hb BK727
              replace HB := bl_ hb
              try clear hb
              refine hK.out _ _ ⟨c0_ BK718, c1_ BK718⟩ (fun hHeld => ?_)
              clear hK K
              refine norm_ (a' := ?_) ?_ ?_
              rotate_left
              ·show Act.put _ (some 159) _ = _
               simp only [Act.put, s1_, s2_, s3_, i64_w, i32_w]
               rfl
              refine one_ (i := 9) (N := some 161) #[y_,y_,y_,y_,y_,y_,y_,y_,y_,y_,n_,n_,n_,n_,n_,n_,n_,n_,n_,n_,n_,n_,n_,n_,n_,n_,n_,n_] rfl rfl (one_of HT_.out (by kernel_rfl)) (by decide) (fun K hK => ?_)
              refine goes_ Try.func71 (by kernel_rfl) rfl #[.agg #[.int .u64 t714, .int .u64 t715]] (by rfl) rfl rfl (by (try simp only [List.map_toArray, List.map_cons, List.map_nil]); first | done | rfl) ?_
              with_reducible refine (lockgateref04_ToT.calls kj86 t714 t715 t782 t783 _ A118.out).mono ?_
              rintro e w131 ⟨rfl, hb⟩
              refine ⟨_, rfl, ?_⟩
              replace BK712 := bb_ hb BK712
              replace BK713 := bb_ hb BK713
              replace BK718 := bb_ hb BK718
              replace BK719 := bb_ hb BK719
              replace BK723 := bb_ hb BK723
              replace BK727 := bb_ hb BK727
              replace HB := bl_ hb
              try clear hb
              refine hK.out _ _ ⟨c0_ BK718, c1_ BK718⟩ (fun hHeld => ?_)
              clear hK K
              refine norm_ (a' := ?_) ?_ ?_
              rotate_left
              ·show Act.put _ (some 161) _ = _
               simp only [Act.put, s1_, s2_, s3_, i64_w, i32_w]
               rfl
              refine pq_ 10 162 #[y_,y_,y_,y_,y_,y_,y_,y_,y_,y_,y_,n_,n_,n_,n_,n_,n_,n_,n_,n_,n_,n_,n_,n_,n_,n_,n_,n_] ?_
              refine pq_ 11 163 #[y_,y_,y_,y_,y_,y_,y_,y_,y_,y_,y_,y_,n_,n_,n_,n_,n_,n_,n_,n_,n_,n_,n_,n_,n_,n_,n_,n_] ?_
              refine pq_ 12 164 #[y_,y_,y_,y_,y_,y_,y_,y_,y_,y_,y_,y_,y_,n_,n_,n_,n_,n_,n_,n_,n_,n_,n_,n_,n_,n_,n_,n_] ?_
              refine one_ (i := 13) (N := some 165) #[y_,y_,y_,y_,y_,y_,y_,y_,y_,y_,y_,y_,y_,y_,n_,n_,n_,n_,n_,n_,n_,n_,n_,n_,n_,n_,n_,n_] rfl rfl (one_of HT_.out (by kernel_rfl)) (by decide) (fun K hK => ?_)
              refine goes_ Try.func72 (by kernel_rfl) rfl #[] (by rfl) rfl rfl (by (try simp only [List.map_toArray, List.map_cons, List.map_nil]); first | done | rfl) ?_
              with_reducible refine (span_UAll.calls  t784 t785 _ A120.out).mono ?_
              rintro e w132 ⟨rfl, hb⟩
              refine ⟨_, rfl, ?_⟩
              replace BK712 := bb_ hb BK712
              replace BK713 := bb_ hb BK713
              replace BK718 := bb_ hb BK718
              replace BK719 := bb_ hb BK719
              replace BK723 := bb_ hb BK723
              replace BK727 := bb_ hb BK727
              replace HB := bl_ hb
              try clear hb
              refine hK.out _ _ ⟨c0_ BK718, c1_ BK718⟩ (fun hHeld => ?_)
              clear hK K
              refine norm_ (a' := ?_) ?_ ?_
              rotate_left
              ·show Act.put _ (some 165) _ = _
               simp only [Act.put, s1_, s2_, s3_, i64_w, i32_w]
               rfl
              refine one_ (i := 14) (N := some 166) #[y_,y_,y_,y_,y_,y_,y_,y_,y_,y_,y_,y_,y_,y_,y_,n_,n_,n_,n_,n_,n_,n_,n_,n_,n_,n_,n_,n_] rfl rfl (one_of HT_.out (by kernel_rfl)) (by decide) (fun K hK => ?_)
              refine goes_ Try.func73 (by kernel_rfl) rfl #[] (by rfl) rfl rfl (by (try simp only [List.map_toArray, List.map_cons, List.map_nil]); first | done | rfl) ?_
              with_reducible refine (lockgateref04_UAll.calls  t786 t787 _ A121.out).mono ?_
              rintro e w133 ⟨rfl, hb⟩
              refine ⟨_, rfl, ?_⟩
              replace BK712 := bb_ hb BK712
              replace BK713 := bb_ hb BK713
              replace BK718 := bb_ hb BK718
              replace BK719 := bb_ hb BK719
              replace BK723 := bb_ hb BK723
              replace BK727 := bb_ hb BK727
              replace HB := bl_ hb
              try clear hb
              refine hK.out _ _ ⟨c0_ BK718, c1_ BK718⟩ (fun hHeld => ?_)
              clear hK K
              refine norm_ (a' := ?_) ?_ ?_
              rotate_left
              ·show Act.put _ (some 166) _ = _
               simp only [Act.put, s1_, s2_, s3_, i64_w, i32_w]
               rfl
              refine pq_ 15 167 #[y_,y_,y_,y_,y_,y_,y_,y_,y_,y_,y_,y_,y_,y_,y_,y_,n_,n_,n_,n_,n_,n_,n_,n_,n_,n_,n_,n_] ?_
              refine pq_ 16 168 #[y_,y_,y_,y_,y_,y_,y_,y_,y_,y_,y_,y_,y_,y_,y_,y_,y_,n_,n_,n_,n_,n_,n_,n_,n_,n_,n_,n_] ?_
              refine pq_ 17 169 #[y_,y_,y_,y_,y_,y_,y_,y_,y_,y_,y_,y_,y_,y_,y_,y_,y_,y_,n_,n_,n_,n_,n_,n_,n_,n_,n_,n_] ?_
              refine pq_ 18 170 #[y_,y_,y_,y_,y_,y_,y_,y_,y_,y_,y_,y_,y_,y_,y_,y_,y_,y_,y_,n_,n_,n_,n_,n_,n_,n_,n_,n_] ?_
              refine pq_ 20 172 #[y_,y_,y_,y_,y_,y_,y_,y_,y_,y_,y_,y_,y_,y_,y_,y_,y_,y_,y_,n_,y_,n_,n_,n_,n_,n_,n_,n_] ?_
              refine one_ (i := 19) (N := some 171) #[y_,y_,y_,y_,y_,y_,y_,y_,y_,y_,y_,y_,y_,y_,y_,y_,y_,y_,y_,y_,y_,n_,n_,n_,n_,n_,n_,n_] rfl rfl (one_of HT_.out (by kernel_rfl)) (by decide) (fun K hK => ?_)
              refine goes_ Try.func42 (by kernel_rfl) rfl #[.int .u64 a3] (by rfl) rfl rfl (by (try simp only [List.map_toArray, List.map_cons, List.map_nil]); first | done | rfl) ?_
              with_reducible refine (span_UOf.calls a3 t788 t789 _ A123.out).mono ?_
              rintro e w134 ⟨rfl, hb⟩
              refine ⟨_, rfl, ?_⟩
              replace BK712 := bb_ hb BK712
              replace BK713 := bb_ hb BK713
              replace BK718 := bb_ hb BK718
              replace BK719 := bb_ hb BK719
              replace BK723 := bb_ hb BK723
              replace BK727 := bb_ hb BK727
              replace HB := bl_ hb
              try clear hb
              refine hK.out _ _ ⟨c0_ BK718, c1_ BK718⟩ (fun hHeld => ?_)
              clear hK K
              refine norm_ (a' := ?_) ?_ ?_
              rotate_left
              ·show Act.put _ (some 171) _ = _
               simp only [Act.put, s1_, s2_, s3_, i64_w, i32_w]
               rfl
              refine one_ (i := 21) (N := some 173) #[y_,y_,y_,y_,y_,y_,y_,y_,y_,y_,y_,y_,y_,y_,y_,y_,y_,y_,y_,y_,y_,y_,n_,n_,n_,n_,n_,n_] rfl rfl (one_of HT_.out (by kernel_rfl)) (by decide) (fun K hK => ?_)
              refine goes_ Try.func74 (by kernel_rfl) rfl #[.int .u64 a3] (by rfl) rfl rfl (by (try simp only [List.map_toArray, List.map_cons, List.map_nil]); first | done | rfl) ?_
              with_reducible refine (lockgateref04_UOf.calls a3 t790 t791 _ A124.out).mono ?_
              rintro e w135 ⟨rfl, hb⟩
              refine ⟨_, rfl, ?_⟩
              replace BK712 := bb_ hb BK712
              replace BK713 := bb_ hb BK713
              replace BK718 := bb_ hb BK718
              replace BK719 := bb_ hb BK719
              replace BK723 := bb_ hb BK723
              replace BK727 := bb_ hb BK727
              replace HB := bl_ hb
              try clear hb
              refine hK.out _ _ ⟨c0_ BK718, c1_ BK718⟩ (fun hHeld => ?_)
              clear hK K
              refine norm_ (a' := ?_) ?_ ?_
              rotate_left
              ·show Act.put _ (some 173) _ = _
               simp only [Act.put, s1_, s2_, s3_, i64_w, i32_w]
               rfl
              refine pq_ 22 174 #[y_,y_,y_,y_,y_,y_,y_,y_,y_,y_,y_,y_,y_,y_,y_,y_,y_,y_,y_,y_,y_,y_,y_,n_,n_,n_,n_,n_] ?_
              refine pq_ 23 175 #[y_,y_,y_,y_,y_,y_,y_,y_,y_,y_,y_,y_,y_,y_,y_,y_,y_,y_,y_,y_,y_,y_,y_,y_,n_,n_,n_,n_] ?_
              refine pq_ 24 176 #[y_,y_,y_,y_,y_,y_,y_,y_,y_,y_,y_,y_,y_,y_,y_,y_,y_,y_,y_,y_,y_,y_,y_,y_,y_,n_,n_,n_] ?_
              refine one_ (i := 25) (N := some 177) #[y_,y_,y_,y_,y_,y_,y_,y_,y_,y_,y_,y_,y_,y_,y_,y_,y_,y_,y_,y_,y_,y_,y_,y_,y_,y_,n_,n_] rfl rfl (one_of HT_.out (by kernel_rfl)) (by decide) (fun K hK => ?_)
              refine goes_ Try.func14 (by kernel_rfl) rfl #[] (by rfl) rfl rfl (by (try simp only [List.map_toArray, List.map_cons, List.map_nil]); first | done | rfl) ?_
              with_reducible refine (lockgatelaw04_works.calls kj86  t792 _ A126.out).mono ?_
              rintro e w136 ⟨rfl, hb⟩
              refine ⟨_, rfl, ?_⟩
              replace BK712 := bb_ hb BK712
              replace BK713 := bb_ hb BK713
              replace BK718 := bb_ hb BK718
              replace BK719 := bb_ hb BK719
              replace BK723 := bb_ hb BK723
              replace BK727 := bb_ hb BK727
              replace HB := bl_ hb
              try clear hb
              refine hK.out _ _ ⟨c0_ BK718, c1_ BK718⟩ (fun hHeld => ?_)
              clear hK K
              refine norm_ (a' := ?_) ?_ ?_
              rotate_left
              ·show Act.put _ (some 177) _ = _
               simp only [Act.put, s1_, s2_, s3_, i64_w, i32_w]
               rfl
              refine pq_ 26 178 #[y_,y_,y_,y_,y_,y_,y_,y_,y_,y_,y_,y_,y_,y_,y_,y_,y_,y_,y_,y_,y_,y_,y_,y_,y_,y_,y_,n_] ?_
              refine pq_ 27 8 #[y_,y_,y_,y_,y_,y_,y_,y_,y_,y_,y_,y_,y_,y_,y_,y_,y_,y_,y_,y_,y_,y_,y_,y_,y_,y_,y_,y_] ?_
              refine done_ (done_of HT_.out (by kernel_rfl)) ?_
              try go_wp2
              go_ret
              exact ⟨vv_, bz_⟩
             ·rw [if_neg c125] at H
              have c125b0 : (t788 == t790 && (t789 == t791)) = false := by simpa using c125
              (try (have c125b1 : decide (t788 = t790 && (t789 == t791)) = false := by simpa using c125))
              (try (have c125b2 : (t788 == t790 && (t789 == t791)) = false := by simpa using c125))
              (try (have c125b3 : ¬ (t788 = t790 && (t789 == t791)) := by simpa using c125))
              clear c125
              exact absurd ((Option.some.inj H).trans HRT.out) (by decide)
            ·rw [if_neg c122] at H
             have c122b0 : (t784 == t786 && (t785 == t787)) = false := by simpa using c122
             (try (have c122b1 : decide (t784 = t786 && (t785 == t787)) = false := by simpa using c122))
             (try (have c122b2 : (t784 == t786 && (t785 == t787)) = false := by simpa using c122))
             (try (have c122b3 : ¬ (t784 = t786 && (t785 == t787)) := by simpa using c122))
             clear c122
             exact absurd ((Option.some.inj H).trans HRT.out) (by decide)
           ·rw [if_neg c119] at H
            have c119b0 : (t780 == t782 && (t781 == t783)) = false := by simpa using c119
            (try (have c119b1 : decide (t780 = t782 && (t781 == t783)) = false := by simpa using c119))
            (try (have c119b2 : (t780 == t782 && (t781 == t783)) = false := by simpa using c119))
            (try (have c119b3 : ¬ (t780 = t782 && (t781 == t783)) := by simpa using c119))
            clear c119
            exact absurd ((Option.some.inj H).trans HRT.out) (by decide)
          ·rw [if_neg c116] at H
           have c116b0 : (t776 == t778 && (t777 == t779)) = false := by simpa using c116
           (try (have c116b1 : decide (t776 = t778 && (t777 == t779)) = false := by simpa using c116))
           (try (have c116b2 : (t776 == t778 && (t777 == t779)) = false := by simpa using c116))
           (try (have c116b3 : ¬ (t776 = t778 && (t777 == t779)) := by simpa using c116))
           clear c116
           exact absurd ((Option.some.inj H).trans HRT.out) (by decide)

end Go.Proofs.Ytnephcecobocdaa.PA
