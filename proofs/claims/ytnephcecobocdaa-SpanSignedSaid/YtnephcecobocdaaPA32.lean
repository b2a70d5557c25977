-- PRINTED by print.py (a twelfth state) out of the translation. Not trusted: Lean checks it.
import Derived.Test.YtnephcecobocdaaWTab
import Derived.Test.YtnephcecobocdaaPA0
import Derived.Test.YtnephcecobocdaaSq
import Derived.Test.YtnephcecobocdaaPA2
import Derived.Test.YtnephcecobocdaaPA3
import Derived.Test.YtnephcecobocdaaPA5
import Derived.Test.YtnephcecobocdaaPA7
import Derived.Test.YtnephcecobocdaaPA8
import Derived.Test.YtnephcecobocdaaPA14
import Derived.Test.YtnephcecobocdaaPA15
import Derived.Test.YtnephcecobocdaaPA16
import Derived.Test.YtnephcecobocdaaPA26
import Derived.Test.YtnephcecobocdaaPA27
namespace Go.Proofs.Ytnephcecobocdaa.PA
open Go.RowKit Go.Proofs.YtnephcecobocdaaW.PrintWords Go.Proofs.YtnephcecobocdaaW.PrintLast Go.Proofs.YtnephcecobocdaaW.PrintMore
attribute [local go_sem] max2_int min2_int max_two min_two max_three min_three max_four min_four   -- for this text's walks alone
set_option linter.unusedVariables false
set_option linter.unusedSimpArgs false

attribute [local go_sem high] eqA26 eqA28
/-! ### lockgatelaw04_SpanSigned: function 7 -/
mutual
def lockgatelaw04_SpanSigned.j0 : Nat → Int → Int → Bool → Int → Int → Int → Int → Option (Bool)
 | 0, _, _, _, _, _, _, _ => none
 | k + 1, x2, x3, x67, x441000, x441001, x442000, x442001 => if x67 = true then (some false) else ((span_SAdd.f x441000 x441001 x442000 x442001).bind fun bt458 => ((lockgateref04_SAdd.f x441000 x441001 x442000 x442001).bind fun bt460 => (if (!(bt458.1 == bt460.1) || (!(bt458.2 == bt460.2))) = true then (lockgatelaw04_SpanSigned.j1 k x3 true) else ((span_SSub.f x441000 x441001 x442000 x442001).bind fun bt462 => ((lockgateref04_SSub.f x441000 x441001 x442000 x442001).bind fun bt464 => (if (!(bt462.1 == bt464.1) || (!(bt462.2 == bt464.2))) = true then (lockgatelaw04_SpanSigned.j1 k x3 true) else ((span_SArsh.f x441000 x441001 x2).bind fun bt466 => ((lockgateref04_SArsh.f k x441000 x441001 x2).bind fun bt468 => (if (!(bt466.1 == bt468.1) || (!(bt466.2 == bt468.2))) = true then (lockgatelaw04_SpanSigned.j1 k x3 true) else ((span_ToU.f x441000 x441001).bind fun bt470 => ((lockgateref04_ToU.f x441000 x441001).bind fun bt472 => (lockgatelaw04_SpanSigned.j1 k x3 (!(bt470.1 == bt472.1) || (!(bt470.2 == bt472.2)))))))))))))))
def lockgatelaw04_SpanSigned.j1 : Nat → Int → Bool → Option (Bool)
 | 0, _, _ => none
 | k + 1, x3, x99 => if x99 = true then (some false) else ((span_SAll.f).bind fun bt474 => ((lockgateref04_SAll.f).bind fun bt476 => (if (bt474.1 == bt476.1 && (bt474.2 == bt476.2)) = true then ((span_SOf.f x3).bind fun bt478 => ((lockgateref04_SOf.f x3).bind fun bt480 => (if (bt478.1 == bt480.1 && (bt478.2 == bt480.2)) = true then ((lockgatelaw04_works.f k).bind fun t482 => (some t482)) else (some false)))) else (some false))))
end
def lockgatelaw04_SpanSigned.f (k : Nat) (a0_0 : Int) (a0_1 : Int) (a1_0 : Int) (a1_1 : Int) (a2 : Int) (a3 : Int) : Option (Bool) := (lockgatelaw04_Ss.f a0_0 a0_1 a1_0 a1_1).bind fun bt436 => ((span_SMeet.f bt436.1 bt436.2.1 bt436.2.2.1 bt436.2.2.2).bind fun bt442 => ((lockgateref04_SMeet.f k bt436.1 bt436.2.1 bt436.2.2.1 bt436.2.2.2).bind fun bt446 => (if (!(bt442.1 == bt446.1) || (!(bt442.2.1 == bt446.2.1))) = true then (lockgatelaw04_SpanSigned.j0 k a2 a3 true bt436.1 bt436.2.1 bt436.2.2.1 bt436.2.2.2) else (if (bt442.2.2 != bt446.2.2) = true then (lockgatelaw04_SpanSigned.j0 k a2 a3 true bt436.1 bt436.2.1 bt436.2.2.1 bt436.2.2.2) else ((span_SIn.f bt436.1 bt436.2.1 a3).bind fun t450 => ((lockgateref04_SIn.f bt436.1 bt436.2.1 a3).bind fun t451 => (if (t450 != t451) = true then (lockgatelaw04_SpanSigned.j0 k a2 a3 true bt436.1 bt436.2.1 bt436.2.2.1 bt436.2.2.2) else ((span_SWithin.f bt436.1 bt436.2.1 bt436.2.2.1 bt436.2.2.2).bind fun t452 => ((lockgateref04_SWithin.f bt436.1 bt436.2.1 bt436.2.2.1 bt436.2.2.2).bind fun t453 => (if (t452 != t453) = true then (lockgatelaw04_SpanSigned.j0 k a2 a3 true bt436.1 bt436.2.1 bt436.2.2.1 bt436.2.2.2) else ((span_SJoin.f bt436.1 bt436.2.1 bt436.2.2.1 bt436.2.2.2).bind fun bt454 => ((lockgateref04_SJoin.f bt436.1 bt436.2.1 bt436.2.2.1 bt436.2.2.2).bind fun bt456 => (lockgatelaw04_SpanSigned.j0 k a2 a3 (!(bt454.1 == bt456.1) || (!(bt454.2 == bt456.2))) bt436.1 bt436.2.1 bt436.2.2.1 bt436.2.2.2)))))))))))))
theorem lockgatelaw04_SpanSigned.mono_l : ∀ k, (∀ y0 y1 y2 y3 y4 y5 y6, LeO (lockgatelaw04_SpanSigned.j0 k y0 y1 y2 y3 y4 y5 y6) (lockgatelaw04_SpanSigned.j0 (k + 1) y0 y1 y2 y3 y4 y5 y6)) ∧ (∀ y0 y1, LeO (lockgatelaw04_SpanSigned.j1 k y0 y1) (lockgatelaw04_SpanSigned.j1 (k + 1) y0 y1))
 | 0 => ⟨fun _ _ _ _ _ _ _ r h => by simp [lockgatelaw04_SpanSigned.j0] at h, fun _ _ r h => by simp [lockgatelaw04_SpanSigned.j1] at h⟩
 | k + 1 => by
  obtain ⟨ih0, ih1⟩ := lockgatelaw04_SpanSigned.mono_l k
  refine ⟨?_, ?_⟩
  ·intro y0 y1 y2 y3 y4 y5 y6
   unfold lockgatelaw04_SpanSigned.j0
   repeat' first
   | (with_reducible exact ih0 _ _ _ _ _ _ _)
   | (with_reducible exact ih1 _ _)
   | (with_reducible exact lockgatelaw04_works.mono _)
   | (with_reducible exact lockgateref04_SArsh.mono _ _ _ _)
   | (with_reducible exact lockgateref04_SMeet.mono _ _ _ _ _)
   | (with_reducible exact LeO.refl _)
   | (with_reducible exact LeO.none _)
   | (with_reducible refine LeO.ite ?_ ?_)
   | (with_reducible refine LeO.bind ?_ (fun _ => ?_))
   | exact ih0 _ _ _ _ _ _ _
   | exact ih1 _ _
   | exact lockgatelaw04_works.mono _
   | exact lockgateref04_SArsh.mono _ _ _ _
   | exact lockgateref04_SMeet.mono _ _ _ _ _
   | exact LeO.none _
   | refine LeO.ite ?_ ?_
   | refine LeO.bind ?_ (fun _ => ?_)
  ·intro y0 y1
   unfold lockgatelaw04_SpanSigned.j1
   repeat' first
   | (with_reducible exact ih0 _ _ _ _ _ _ _)
   | (with_reducible exact ih1 _ _)
   | (with_reducible exact lockgatelaw04_works.mono _)
   | (with_reducible exact lockgateref04_SArsh.mono _ _ _ _)
   | (with_reducible exact lockgateref04_SMeet.mono _ _ _ _ _)
   | (with_reducible exact LeO.refl _)
   | (with_reducible exact LeO.none _)
   | (with_reducible refine LeO.ite ?_ ?_)
   | (with_reducible refine LeO.bind ?_ (fun _ => ?_))
   | exact ih0 _ _ _ _ _ _ _
   | exact ih1 _ _
   | exact lockgatelaw04_works.mono _
   | exact lockgateref04_SArsh.mono _ _ _ _
   | exact lockgateref04_SMeet.mono _ _ _ _ _
   | exact LeO.none _
   | refine LeO.ite ?_ ?_
   | refine LeO.bind ?_ (fun _ => ?_)
theorem lockgatelaw04_SpanSigned.mono : ∀ a0 a1 a2 a3 a4 a5 k, LeO (lockgatelaw04_SpanSigned.f k a0 a1 a2 a3 a4 a5) (lockgatelaw04_SpanSigned.f (k + 1) a0 a1 a2 a3 a4 a5) := by
 intro a0 a1 a2 a3 a4 a5 k
 obtain ⟨ih0, ih1⟩ := lockgatelaw04_SpanSigned.mono_l k
 unfold lockgatelaw04_SpanSigned.f
 repeat' first
  | (with_reducible exact ih0 _ _ _ _ _ _ _)
  | (with_reducible exact ih1 _ _)
  | (with_reducible exact lockgatelaw04_works.mono _)
  | (with_reducible exact lockgateref04_SArsh.mono _ _ _ _)
  | (with_reducible exact lockgateref04_SMeet.mono _ _ _ _ _)
  | (with_reducible exact LeO.refl _)
  | (with_reducible exact LeO.none _)
  | (with_reducible refine LeO.ite ?_ ?_)
  | (with_reducible refine LeO.bind ?_ (fun _ => ?_))
  | exact ih0 _ _ _ _ _ _ _
  | exact ih1 _ _
  | exact lockgatelaw04_works.mono _
  | exact lockgateref04_SArsh.mono _ _ _ _
  | exact lockgateref04_SMeet.mono _ _ _ _ _
  | exact LeO.none _
  | refine LeO.ite ?_ ?_
  | refine LeO.bind ?_ (fun _ => ?_)
def lockgatelaw04_SpanSigned.T4 : Bool × List (List Nat × List Nat) := (true, [([], []), ([], []), ([0, 1], [0, 1]), ([2], [2]), ([3], [3]), ([3], [3]), ([4, 5, 3], [3, 4, 5]), ([3, 6], [3, 6]), ([7, 3], [7]), ([8], [8]), ([8], [8]), ([9, 10, 8, 8], [8, 9, 10]), ([8], [8]), ([8], [8]), ([12, 13, 11, 8], [8, 12, 13]), ([11, 14, 8], [8, 11, 14]), ([8, 15], [8, 15]), ([16, 14], [16]), ([17], [17]), ([17], [17]), ([18, 19, 17, 17], [17, 18, 19]), ([17], [17]), ([17], [17]), ([21, 22, 20, 17], [17, 21, 22]), ([20, 23, 17], [17, 20, 23]), ([17, 24], [17, 24]), ([25, 23], [25]), ([26], [26]), ([26], [26]), ([27, 28, 26, 26], [26, 27, 28]), ([26], [26]), ([26], [26]), ([30, 31, 29, 26], [26, 30, 31]), ([29, 32, 26], [26, 29, 32]), ([26, 33], [26, 33])])
def lockgatelaw04_SpanSigned.B4 : List Nat := [0, 0, 3, 7, 15, 15, 63, 127, 255, 511, 511, 2047, 511, 511, 16383, 32767, 65535, 131071, 262143, 262143, 1048575, 262143, 262143, 8388607, 16777215, 33554431, 67108863, 134217727, 134217727, 536870911, 134217727, 134217727, 4294967295, 8589934591, 17179869183]
theorem lockgatelaw04_SpanSigned.tab4 : rtab .any (opsOf Try.f7 4) = lockgatelaw04_SpanSigned.T4 := by kernel_rfl
theorem lockgatelaw04_SpanSigned.bits4 : waitsOk lockgatelaw04_SpanSigned.T4.2 lockgatelaw04_SpanSigned.B4 = true := by kernel_rfl
def lockgatelaw04_SpanSigned.T6 : Bool × List (List Nat × List Nat) := (true, [([], []), ([], []), ([0, 1], [0, 1]), ([], []), ([], []), ([3, 4, 2], [3, 4]), ([2, 5], [2, 5]), ([6, 5], [6]), ([7], [7]), ([7], [7]), ([8, 9, 7, 7], [7, 8, 9]), ([7], [7]), ([7], [7]), ([11, 12, 10, 7], [7, 11, 12]), ([10, 13, 7], [7, 10, 13]), ([7, 14], [7, 14]), ([15, 13], [15]), ([16], [16]), ([16], [16]), ([17, 18, 16, 16], [16, 17, 18]), ([16], [16]), ([16], [16]), ([20, 21, 19, 16], [16, 20, 21]), ([19, 22, 16], [16, 19, 22]), ([16, 23], [16, 23]), ([24, 22], [24]), ([25], [25]), ([26, 25, 25], [25, 26]), ([25], [25]), ([28, 27, 25], [25, 28]), ([27, 29, 25], [25, 27, 29]), ([25, 30], [25, 30])])
def lockgatelaw04_SpanSigned.B6 : List Nat := [0, 0, 3, 0, 0, 31, 63, 127, 255, 255, 1023, 255, 255, 8191, 16383, 32767, 65535, 131071, 131071, 524287, 131071, 131071, 4194303, 8388607, 16777215, 33554431, 67108863, 134217727, 67108863, 536870911, 1073741823, 2147483647]
theorem lockgatelaw04_SpanSigned.tab6 : rtab .any (opsOf Try.f7 6) = lockgatelaw04_SpanSigned.T6 := by kernel_rfl
theorem lockgatelaw04_SpanSigned.bits6 : waitsOk lockgatelaw04_SpanSigned.T6.2 lockgatelaw04_SpanSigned.B6 = true := by kernel_rfl
set_option maxHeartbeats 8000000 in
set_option maxRecDepth 100000 in
theorem lockgatelaw04_SpanSigned.calls (k : Nat) (a0_0 : Int) (a0_1 : Int) (a1_0 : Int) (a1_1 : Int) (a2 : Int) (a3 : Int) (r : Bool) (w : World) (HRT : Aside0 (r = true)) (h : lockgatelaw04_SpanSigned.f k a0_0 a0_1 a1_0 a1_1 a2 a3 = some r) :
 Calls Try.prog 7 #[.agg #[.int .i64 a0_0, .int .i64 a0_1], .agg #[.int .i64 a1_0, .int .i64 a1_1], .int .i64 a2, .int .u64 a3] w fun e w' => e = .returned (.bool r) ∧ Below w.heap.size w w' := by
 have hu28 := Try.underlying28
 have HB := Aside0.mk (Below.refl w.heap.size w)
 have H : ((lockgatelaw04_Ss.f a0_0 a0_1 a1_0 a1_1).bind fun bt436 => ((span_SMeet.f bt436.1 bt436.2.1 bt436.2.2.1 bt436.2.2.2).bind fun bt442 => ((lockgateref04_SMeet.f k bt436.1 bt436.2.1 bt436.2.2.1 bt436.2.2.2).bind fun bt446 => (if (!(bt442.1 == bt446.1) || (!(bt442.2.1 == bt446.2.1))) = true then (lockgatelaw04_SpanSigned.j0 k a2 a3 true bt436.1 bt436.2.1 bt436.2.2.1 bt436.2.2.2) else (if (bt442.2.2 != bt446.2.2) = true then (lockgatelaw04_SpanSigned.j0 k a2 a3 true bt436.1 bt436.2.1 bt436.2.2.1 bt436.2.2.2) else ((span_SIn.f bt436.1 bt436.2.1 a3).bind fun t450 => ((lockgateref04_SIn.f bt436.1 bt436.2.1 a3).bind fun t451 => (if (t450 != t451) = true then (lockgatelaw04_SpanSigned.j0 k a2 a3 true bt436.1 bt436.2.1 bt436.2.2.1 bt436.2.2.2) else ((span_SWithin.f bt436.1 bt436.2.1 bt436.2.2.1 bt436.2.2.2).bind fun t452 => ((lockgateref04_SWithin.f bt436.1 bt436.2.1 bt436.2.2.1 bt436.2.2.2).bind fun t453 => (if (t452 != t453) = true then (lockgatelaw04_SpanSigned.j0 k a2 a3 true bt436.1 bt436.2.1 bt436.2.2.1 bt436.2.2.2) else ((span_SJoin.f bt436.1 bt436.2.1 bt436.2.2.1 bt436.2.2.2).bind fun bt454 => ((lockgateref04_SJoin.f bt436.1 bt436.2.1 bt436.2.2.1 bt436.2.2.2).bind fun bt456 => (lockgatelaw04_SpanSigned.j0 k a2 a3 (!(bt454.1 == bt456.1) || (!(bt454.2 == bt456.2))) bt436.1 bt436.2.1 bt436.2.2.1 bt436.2.2.2)))))))))))))) = some r := h
 clear h
 replace H := Option.bind_eq_some_iff.mp H
 obtain ⟨⟨t436, t437, t438, t439⟩, A50, H⟩ := H
 replace H : ((span_SMeet.f t436 t437 t438 t439).bind fun bt442 => ((lockgateref04_SMeet.f k t436 t437 t438 t439).bind fun bt446 => (if (!(bt442.1 == bt446.1) || (!(bt442.2.1 == bt446.2.1))) = true then (lockgatelaw04_SpanSigned.j0 k a2 a3 true t436 t437 t438 t439) else (if (bt442.2.2 != bt446.2.2) = true then (lockgatelaw04_SpanSigned.j0 k a2 a3 true t436 t437 t438 t439) else ((span_SIn.f t436 t437 a3).bind fun t450 => ((lockgateref04_SIn.f t436 t437 a3).bind fun t451 => (if (t450 != t451) = true then (lockgatelaw04_SpanSigned.j0 k a2 a3 true t436 t437 t438 t439) else ((span_SWithin.f t436 t437 t438 t439).bind fun t452 => ((lockgateref04_SWithin.f t436 t437 t438 t439).bind fun t453 => (if (t452 != t453) = true then (lockgatelaw04_SpanSigned.j0 k a2 a3 true t436 t437 t438 t439) else ((span_SJoin.f t436 t437 t438 t439).bind fun bt454 => ((lockgateref04_SJoin.f t436 t437 t438 t439).bind fun bt456 => (lockgatelaw04_SpanSigned.j0 k a2 a3 (!(bt454.1 == bt456.1) || (!(bt454.2 == bt456.2))) t436 t437 t438 t439))))))))))))) = some r := H
 have A5 := Aside0.mk A50
 clear A50
 replace H := Option.bind_eq_some_iff.mp H
 obtain ⟨⟨t442, t443, t444⟩, A60, H⟩ := H
 replace H : ((lockgateref04_SMeet.f k t436 t437 t438 t439).bind fun bt446 => (if (!(t442 == bt446.1) || (!(t443 == bt446.2.1))) = true then (lockgatelaw04_SpanSigned.j0 k a2 a3 true t436 t437 t438 t439) else (if (t444 != bt446.2.2) = true then (lockgatelaw04_SpanSigned.j0 k a2 a3 true t436 t437 t438 t439) else ((span_SIn.f t436 t437 a3).bind fun t450 => ((lockgateref04_SIn.f t436 t437 a3).bind fun t451 => (if (t450 != t451) = true then (lockgatelaw04_SpanSigned.j0 k a2 a3 true t436 t437 t438 t439) else ((span_SWithin.f t436 t437 t438 t439).bind fun t452 => ((lockgateref04_SWithin.f t436 t437 t438 t439).bind fun t453 => (if (t452 != t453) = true then (lockgatelaw04_SpanSigned.j0 k a2 a3 true t436 t437 t438 t439) else ((span_SJoin.f t436 t437 t438 t439).bind fun bt454 => ((lockgateref04_SJoin.f t436 t437 t438 t439).bind fun bt456 => (lockgatelaw04_SpanSigned.j0 k a2 a3 (!(bt454.1 == bt456.1) || (!(bt454.2 == bt456.2))) t436 t437 t438 t439)))))))))))) = some r := H
 have A6 := Aside0.mk A60
 clear A60
 replace H := Option.bind_eq_some_iff.mp H
 obtain ⟨⟨t446, t447, t448⟩, A70, H⟩ := H
 replace H : (if (!(t442 == t446) || (!(t443 == t447))) = true then (lockgatelaw04_SpanSigned.j0 k a2 a3 true t436 t437 t438 t439) else (if (t444 != t448) = true then (lockgatelaw04_SpanSigned.j0 k a2 a3 true t436 t437 t438 t439) else ((span_SIn.f t436 t437 a3).bind fun t450 => ((lockgateref04_SIn.f t436 t437 a3).bind fun t451 => (if (t450 != t451) = true then (lockgatelaw04_SpanSigned.j0 k a2 a3 true t436 t437 t438 t439) else ((span_SWithin.f t436 t437 t438 t439).bind fun t452 => ((lockgateref04_SWithin.f t436 t437 t438 t439).bind fun t453 => (if (t452 != t453) = true then (lockgatelaw04_SpanSigned.j0 k a2 a3 true t436 t437 t438 t439) else ((span_SJoin.f t436 t437 t438 t439).bind fun bt454 => ((lockgateref04_SJoin.f t436 t437 t438 t439).bind fun bt456 => (lockgatelaw04_SpanSigned.j0 k a2 a3 (!(bt454.1 == bt456.1) || (!(bt454.2 == bt456.2))) t436 t437 t438 t439))))))))))) = some r := H
 have A7 := Aside0.mk A70
 clear A70
 have HC8 := Aside0.mk H
 clear H
 go_enter Try.func7, Try.ntmps7
 go_upto_region 4 with (first | ((with_reducible refine gate_dst (N := 4) rfl ?_); refine box_event ?hg (N := 4) ?hd (cs := #[.int .i64 a0_0, .int .i64 a0_1]) (t := 28) ?hr ?_; (case hd => rfl); (case hg => rfl); (case hr => first | (go_simp; done) | (go_simp; rfl)); intro gb434 hg w9 hbox hb; have BK434 := Aside0.mk (hbox); have GW434 := bg_ hg; have GE434 := GW434; replace HB := bl_ hb; clear hb hbox hg; have hcqgb434_0 := c0_ BK434; have hfqgb434_0 := fz_ BK434 0; have hcqgb434_1 := c1_ BK434; have hfqgb434_1 := fz_ BK434 1) | ((with_reducible refine gate_dst (N := 5) rfl ?_); refine box_event ?hg (N := 5) ?hd (cs := #[.int .i64 a1_0, .int .i64 a1_1]) (t := 28) ?hr ?_; (case hd => rfl); (case hg => rfl); (case hr => first | (go_simp; done) | (go_simp; rfl)); intro gb435 hg w10 hbox hb; have BK435 := Aside0.mk (hbox); have GW435 := bg_ hg; have GE435 := GW435; have NB434_435 := bm_ hg BK434; have NB435_434 := bn_ hg BK434; replace BK434 := bb_ hb BK434; replace HB := bl_ hb; clear hb hbox hg; have hcqgb435_0 := c0_ BK435; have hfqgb435_0 := fz_ BK435 0; have hcqgb435_1 := c1_ BK435; have hfqgb435_1 := fz_ BK435 1; have hnb11 := NB434_435.out; have hnc11 := NB435_434.out; have hcz12_0 := c0_ BK434; have hcz12_1 := c1_ BK434; have hfz12_0 := fz_ BK434 0; have hfz12_1 := fz_ BK434 1; have hcz13_0 := c0_ BK435; have hcz13_1 := c1_ BK435; have hfz13_0 := fz_ BK435 0; have hfz13_1 := fz_ BK435 1) | ((with_reducible refine gate_callee (f := 17) rfl ?_); refine goesL_ (some 18) rfl rfl Try.func17 (by kernel_rfl) rfl #[.agg #[.int .i64 a0_0, .int .i64 a0_1], .agg #[.int .i64 a1_0, .int .i64 a1_1]] rfl (by (try simp only [List.map_toArray, List.map_cons, List.map_nil]); first | done | rfl) ?_; (with_reducible refine (lockgatelaw04_Ss.calls a0_0 a0_1 a1_0 a1_1 t436 t437 t438 t439 _ A5.out).mono ?_); rintro e w14 ⟨rfl, hb⟩; refine ⟨_, rfl, ?_⟩; replace BK434 := bb_ hb BK434; replace BK435 := bb_ hb BK435; replace HB := bl_ hb; (try clear hb); (try clear hb2); (try clear hk); (try clear hi)) | ((with_reducible refine gate_dst (N := 9) rfl ?_); refine box_event ?hg (N := 9) ?hd (cs := #[.int .i64 0, .int .i64 0]) (t := 28) ?hr ?_; (case hd => rfl); (case hg => rfl); (case hr => first | (go_simp; done) | (go_simp; rfl)); intro gb440 hg w15 hbox hb; have BK440 := Aside0.mk (hbox); have GW440 := bg_ hg; have GE440 := GW440; have NB434_440 := bm_ hg BK434; have NB440_434 := bn_ hg BK434; have NB435_440 := bm_ hg BK435; have NB440_435 := bn_ hg BK435; replace BK434 := bb_ hb BK434; replace BK435 := bb_ hb BK435; replace HB := bl_ hb; clear hb hbox hg; have hcqgb440_0 := c0_ BK440; have hfqgb440_0 := fz_ BK440 0; have hcqgb440_1 := c1_ BK440; have hfqgb440_1 := fz_ BK440 1) | ((with_reducible refine gate_dst (N := 10) rfl ?_); refine box_event ?hg (N := 10) ?hd (cs := #[.int .i64 0, .int .i64 0]) (t := 28) ?hr ?_; (case hd => rfl); (case hg => rfl); (case hr => first | (go_simp; done) | (go_simp; rfl)); intro gb441 hg w16 hbox hb; have BK441 := Aside0.mk (hbox); have GW441 := bg_ hg; have GE441 := GW441; have NB434_441 := bm_ hg BK434; have NB441_434 := bn_ hg BK434; have NB435_441 := bm_ hg BK435; have NB441_435 := bn_ hg BK435; have NB440_441 := bm_ hg BK440; have NB441_440 := bn_ hg BK440; replace BK434 := bb_ hb BK434; replace BK435 := bb_ hb BK435; replace BK440 := bb_ hb BK440; replace HB := bl_ hb; clear hb hbox hg; have hcqgb441_0 := c0_ BK441; have hfqgb441_0 := fz_ BK441 0; have hcqgb441_1 := c1_ BK441; have hfqgb441_1 := fz_ BK441 1; have hnb17 := NB440_434.out; have hnc17 := NB434_440.out; have hnb18 := NB440_435.out; have hnc18 := NB435_440.out; have hnb19 := NB440_441.out; have hnc19 := NB441_440.out; have hcz20_0 := c0_ BK440; have hcz20_1 := c1_ BK440; have hfz20_0 := fz_ BK440 0; have hfz20_1 := fz_ BK440 1; have hnb21 := NB441_434.out; have hnc21 := NB434_441.out; have hnb22 := NB441_435.out; have hnc22 := NB435_441.out; have hcz23_0 := c0_ BK441; have hcz23_1 := c1_ BK441; have hfz23_0 := fz_ BK441 0; have hfz23_1 := fz_ BK441 1) | ((with_reducible refine gate_callee (f := 27) rfl ?_); refine goesL_ (some 24) rfl rfl Try.func27 (by kernel_rfl) rfl #[.agg #[.int .i64 t436, .int .i64 t437], .agg #[.int .i64 t438, .int .i64 t439]] rfl (by (try simp only [List.map_toArray, List.map_cons, List.map_nil]); first | done | rfl) ?_; (with_reducible refine (span_SMeet.calls t436 t437 t438 t439 t442 t443 t444 _ A6.out).mono ?_); rintro e w24 ⟨rfl, hb⟩; refine ⟨_, rfl, ?_⟩; replace BK434 := Aside0.mk (blk_below (g := gb434) (o := .cells #[.int .i64 a0_0, .int .i64 a0_1] 28 (0, 0)) (by (with_reducible repeat (first | apply bN_ | apply bD_ | apply bA_)); refine blk_far ?_ NB434_441.out _; (with_reducible repeat (first | apply bN_ | apply bD_ | apply bA_)); refine blk_far ?_ NB434_441.out _; (with_reducible repeat (first | apply bN_ | apply bD_ | apply bA_)); refine blk_far ?_ NB434_440.out _; (with_reducible repeat (first | apply bN_ | apply bD_ | apply bA_)); refine blk_far ?_ NB434_440.out _; (with_reducible repeat (first | apply bN_ | apply bD_ | apply bA_)); exact BK434.out) hb); replace BK435 := Aside0.mk (blk_below (g := gb435) (o := .cells #[.int .i64 a1_0, .int .i64 a1_1] 28 (0, 0)) (by (with_reducible repeat (first | apply bN_ | apply bD_ | apply bA_)); refine blk_far ?_ NB435_441.out _; (with_reducible repeat (first | apply bN_ | apply bD_ | apply bA_)); refine blk_far ?_ NB435_441.out _; (with_reducible repeat (first | apply bN_ | apply bD_ | apply bA_)); refine blk_far ?_ NB435_440.out _; (with_reducible repeat (first | apply bN_ | apply bD_ | apply bA_)); refine blk_far ?_ NB435_440.out _; (with_reducible repeat (first | apply bN_ | apply bD_ | apply bA_)); exact BK435.out) hb); replace BK440 := Aside0.mk (blk_below (g := gb440) (o := .cells #[.int .i64 t436, .int .i64 t437] 28 (0, 0)) (by (with_reducible repeat (first | apply bN_ | apply bD_ | apply bA_)); refine blk_far ?_ NB440_441.out _; (with_reducible repeat (first | apply bN_ | apply bD_ | apply bA_)); refine blk_far ?_ NB440_441.out _; (with_reducible repeat (first | apply bN_ | apply bD_ | apply bA_)); refine blk_put (cs := #[.int .i64 t436, .int .i64 0]) ?_ 1 _ rfl; (with_reducible repeat (first | apply bN_ | apply bD_ | apply bA_)); refine blk_put (cs := #[.int .i64 0, .int .i64 0]) ?_ 0 _ rfl; (with_reducible repeat (first | apply bN_ | apply bD_ | apply bA_)); exact BK440.out) hb); replace BK441 := Aside0.mk (blk_below (g := gb441) (o := .cells #[.int .i64 t438, .int .i64 t439] 28 (0, 0)) (by (with_reducible repeat (first | apply bN_ | apply bD_ | apply bA_)); refine blk_put (cs := #[.int .i64 t438, .int .i64 0]) ?_ 1 _ rfl; (with_reducible repeat (first | apply bN_ | apply bD_ | apply bA_)); refine blk_put (cs := #[.int .i64 0, .int .i64 0]) ?_ 0 _ rfl; (with_reducible repeat (first | apply bN_ | apply bD_ | apply bA_)); refine blk_far ?_ NB441_440.out _; (with_reducible repeat (first | apply bN_ | apply bD_ | apply bA_)); refine blk_far ?_ NB441_440.out _; (with_reducible repeat (first | apply bN_ | apply bD_ | apply bA_)); exact BK441.out) hb); replace HB := bl_ hb; (try clear hb); (try clear hb2); (try clear hk); (try clear hi)) | ((with_reducible refine gate_dst (N := 11) rfl ?_); refine box_event ?hg (N := 11) ?hd (cs := #[.int .i64 0, .int .i64 0]) (t := 28) ?hr ?_; (case hd => rfl); (case hg => rfl); (case hr => first | (go_simp; done) | (go_simp; rfl)); intro gb445 hg w25 hbox hb; have BK445 := Aside0.mk (hbox); have GW445 := bg_ hg; have GE445 := GW445; have NB434_445 := bm_ hg BK434; have NB445_434 := bn_ hg BK434; have NB435_445 := bm_ hg BK435; have NB445_435 := bn_ hg BK435; have NB440_445 := bm_ hg BK440; have NB445_440 := bn_ hg BK440; have NB441_445 := bm_ hg BK441; have NB445_441 := bn_ hg BK441; replace BK434 := bb_ hb BK434; replace BK435 := bb_ hb BK435; replace BK440 := bb_ hb BK440; replace BK441 := bb_ hb BK441; replace HB := bl_ hb; clear hb hbox hg; have hcqgb445_0 := c0_ BK445; have hfqgb445_0 := fz_ BK445 0; have hcqgb445_1 := c1_ BK445; have hfqgb445_1 := fz_ BK445 1; have hnb26 := NB445_434.out; have hnc26 := NB434_445.out; have hnb27 := NB445_435.out; have hnc27 := NB435_445.out; have hnb28 := NB445_440.out; have hnc28 := NB440_445.out; have hnb29 := NB445_441.out; have hnc29 := NB441_445.out; have hcz30_0 := c0_ BK445; have hcz30_1 := c1_ BK445; have hfz30_0 := fz_ BK445 0; have hfz30_1 := fz_ BK445 1; have hcz31_0 := c0_ BK440; have hcz31_1 := c1_ BK440; have hfz31_0 := fz_ BK440 0; have hfz31_1 := fz_ BK440 1; have hcz32_0 := c0_ BK441; have hcz32_1 := c1_ BK441; have hfz32_0 := fz_ BK441 0; have hfz32_1 := fz_ BK441 1) | ((with_reducible refine gate_callee (f := 30) rfl ?_); refine goesL_ (some 30) rfl rfl Try.func30 (by kernel_rfl) rfl #[.agg #[.int .i64 t436, .int .i64 t437], .agg #[.int .i64 t438, .int .i64 t439]] rfl (by (try simp only [List.map_toArray, List.map_cons, List.map_nil]); first | done | rfl) ?_; (with_reducible refine (lockgateref04_SMeet.calls k t436 t437 t438 t439 t446 t447 t448 _ A7.out).mono ?_); rintro e w33 ⟨rfl, hb⟩; refine ⟨_, rfl, ?_⟩; replace BK434 := Aside0.mk (blk_below (g := gb434) (o := .cells #[.int .i64 a0_0, .int .i64 a0_1] 28 (0, 0)) (by (with_reducible repeat (first | apply bN_ | apply bD_ | apply bA_)); refine blk_far ?_ NB434_445.out _; (with_reducible repeat (first | apply bN_ | apply bD_ | apply bA_)); refine blk_far ?_ NB434_445.out _; (with_reducible repeat (first | apply bN_ | apply bD_ | apply bA_)); exact BK434.out) hb); replace BK435 := Aside0.mk (blk_below (g := gb435) (o := .cells #[.int .i64 a1_0, .int .i64 a1_1] 28 (0, 0)) (by (with_reducible repeat (first | apply bN_ | apply bD_ | apply bA_)); refine blk_far ?_ NB435_445.out _; (with_reducible repeat (first | apply bN_ | apply bD_ | apply bA_)); refine blk_far ?_ NB435_445.out _; (with_reducible repeat (first | apply bN_ | apply bD_ | apply bA_)); exact BK435.out) hb); replace BK440 := Aside0.mk (blk_below (g := gb440) (o := .cells #[.int .i64 t436, .int .i64 t437] 28 (0, 0)) (by (with_reducible repeat (first | apply bN_ | apply bD_ | apply bA_)); refine blk_far ?_ NB440_445.out _; (with_reducible repeat (first | apply bN_ | apply bD_ | apply bA_)); refine blk_far ?_ NB440_445.out _; (with_reducible repeat (first | apply bN_ | apply bD_ | apply bA_)); exact BK440.out) hb); replace BK441 := Aside0.mk (blk_below (g := gb441) (o := .cells #[.int .i64 t438, .int .i64 t439] 28 (0, 0)) (by (with_reducible repeat (first | apply bN_ | apply bD_ | apply bA_)); refine blk_far ?_ NB441_445.out _; (with_reducible repeat (first | apply bN_ | apply bD_ | apply bA_)); refine blk_far ?_ NB441_445.out _; (with_reducible repeat (first | apply bN_ | apply bD_ | apply bA_)); exact BK441.out) hb); replace BK445 := Aside0.mk (blk_below (g := gb445) (o := .cells #[.int .i64 t442, .int .i64 t443] 28 (0, 0)) (by (with_reducible repeat (first | apply bN_ | apply bD_ | apply bA_)); refine blk_put (cs := #[.int .i64 t442, .int .i64 0]) ?_ 1 _ rfl; (with_reducible repeat (first | apply bN_ | apply bD_ | apply bA_)); refine blk_put (cs := #[.int .i64 0, .int .i64 0]) ?_ 0 _ rfl; (with_reducible repeat (first | apply bN_ | apply bD_ | apply bA_)); exact BK445.out) hb); replace HB := bl_ hb; (try clear hb); (try clear hb2); (try clear hk); (try clear hi)) | ((with_reducible refine gate_dst (N := 13) rfl ?_); refine box_event ?hg (N := 13) ?hd (cs := #[.int .i64 0, .int .i64 0]) (t := 28) ?hr ?_; (case hd => rfl); (case hg => rfl); (case hr => first | (go_simp; done) | (go_simp; rfl)); intro gb449 hg w34 hbox hb; have BK449 := Aside0.mk (hbox); have GW449 := bg_ hg; have GE449 := GW449; have NB434_449 := bm_ hg BK434; have NB449_434 := bn_ hg BK434; have NB435_449 := bm_ hg BK435; have NB449_435 := bn_ hg BK435; have NB440_449 := bm_ hg BK440; have NB449_440 := bn_ hg BK440; have NB441_449 := bm_ hg BK441; have NB449_441 := bn_ hg BK441; have NB445_449 := bm_ hg BK445; have NB449_445 := bn_ hg BK445; replace BK434 := bb_ hb BK434; replace BK435 := bb_ hb BK435; replace BK440 := bb_ hb BK440; replace BK441 := bb_ hb BK441; replace BK445 := bb_ hb BK445; replace HB := bl_ hb; clear hb hbox hg; have hcqgb449_0 := c0_ BK449; have hfqgb449_0 := fz_ BK449 0; have hcqgb449_1 := c1_ BK449; have hfqgb449_1 := fz_ BK449 1; have hnb35 := NB449_434.out; have hnc35 := NB434_449.out; have hnb36 := NB449_435.out; have hnc36 := NB435_449.out; have hnb37 := NB449_440.out; have hnc37 := NB440_449.out; have hnb38 := NB449_441.out; have hnc38 := NB441_449.out; have hnb39 := NB449_445.out; have hnc39 := NB445_449.out; have hcz40_0 := c0_ BK449; have hcz40_1 := c1_ BK449; have hfz40_0 := fz_ BK449 0; have hfz40_1 := fz_ BK449 1))
 (try simp only [Act.put, s1_, s2_, s3_])
 go_cut [67] (fun v67 wc => ∃ (kq : Nat) (x67_7 : Bool), v67 = .bool x67_7 ∧ Aside0 (lockgatelaw04_SpanSigned.j0 kq a2 a3 x67_7 t436 t437 t438 t439 = some r) ∧ Aside0 (kq ≤ k) ∧ Aside0 (wc.heap[gb434]? = some (.cells #[.int .i64 a0_0, .int .i64 a0_1] 28 (0, 0))) ∧ Aside0 (wc.heap[gb435]? = some (.cells #[.int .i64 a1_0, .int .i64 a1_1] 28 (0, 0))) ∧ Aside0 (wc.heap[gb440]? = some (.cells #[.int .i64 t436, .int .i64 t437] 28 (0, 0))) ∧ Aside0 (wc.heap[gb441]? = some (.cells #[.int .i64 t438, .int .i64 t439] 28 (0, 0))) ∧ Aside0 (wc.heap[gb445]? = some (.cells #[.int .i64 t442, .int .i64 t443] 28 (0, 0))) ∧ Aside0 (wc.heap[gb449]? = some (.cells #[.int .i64 t446, .int .i64 t447] 28 (0, 0))) ∧ Aside0 (Below w.heap.size w wc))
 case first =>
  have H := HC8.out
  clear HC8
  by_cases c41 : (!(t442 == t446) || (!(t443 == t447))) = true
  ·rw [if_pos c41] at H
   have c41b0 : (!(t442 == t446) || (!(t443 == t447))) = true := c41
   clear c41
   (first | rw [c41b0] | (simp only [i64_w, i32_w]; rw [c41b0]) | skip)
   exfalso
   cases k with
   | zero => rw [lockgatelaw04_SpanSigned.j0] at H; exact nomatch H
   | succ q_ => rw [lockgatelaw04_SpanSigned.j0, if_pos rfl] at H; exact absurd ((Option.some.inj H).trans HRT.out) (by decide)
  ·rw [if_neg c41] at H
   have c41b0 : (!(t442 == t446) || (!(t443 == t447))) = false := by simpa using c41
   clear c41
   (first | rw [c41b0] | (simp only [i64_w, i32_w]; rw [c41b0]) | skip)
   by_cases c42 : (t444 != t448) = true
   ·rw [if_pos c42] at H
    have c42b0 : (t444 != t448) = true := c42
    (try (have c42b1 : decide (t444 = t448) = false := by simpa using c42))
    (try (have c42b2 : (t444 == t448) = false := by simpa using c42))
    (try (have c42b3 : ¬ (t444 = t448) := by simpa using c42))
    clear c42
    exfalso
    cases k with
    | zero => rw [lockgatelaw04_SpanSigned.j0] at H; exact nomatch H
    | succ q_ => rw [lockgatelaw04_SpanSigned.j0, if_pos rfl] at H; exact absurd ((Option.some.inj H).trans HRT.out) (by decide)
   ·rw [if_neg c42] at H
    have c42b0 : (t444 != t448) = false := by simpa using c42
    (try (have c42b1 : decide (t444 = t448) = true := by simpa using c42))
    (try (have c42b2 : (t444 == t448) = true := by simpa using c42))
    clear c42
    replace H := Option.bind_eq_some_iff.mp H
    obtain ⟨t450, A430, H⟩ := H
    replace H : ((lockgateref04_SIn.f t436 t437 a3).bind fun t451 => (if (t450 != t451) = true then (lockgatelaw04_SpanSigned.j0 k a2 a3 true t436 t437 t438 t439) else ((span_SWithin.f t436 t437 t438 t439).bind fun t452 => ((lockgateref04_SWithin.f t436 t437 t438 t439).bind fun t453 => (if (t452 != t453) = true then (lockgatelaw04_SpanSigned.j0 k a2 a3 true t436 t437 t438 t439) else ((span_SJoin.f t436 t437 t438 t439).bind fun bt454 => ((lockgateref04_SJoin.f t436 t437 t438 t439).bind fun bt456 => (lockgatelaw04_SpanSigned.j0 k a2 a3 (!(bt454.1 == bt456.1) || (!(bt454.2 == bt456.2))) t436 t437 t438 t439)))))))) = some r := H
    have A43 := Aside0.mk A430
    clear A430
    replace H := Option.bind_eq_some_iff.mp H
    obtain ⟨t451, A440, H⟩ := H
    replace H : (if (t450 != t451) = true then (lockgatelaw04_SpanSigned.j0 k a2 a3 true t436 t437 t438 t439) else ((span_SWithin.f t436 t437 t438 t439).bind fun t452 => ((lockgateref04_SWithin.f t436 t437 t438 t439).bind fun t453 => (if (t452 != t453) = true then (lockgatelaw04_SpanSigned.j0 k a2 a3 true t436 t437 t438 t439) else ((span_SJoin.f t436 t437 t438 t439).bind fun bt454 => ((lockgateref04_SJoin.f t436 t437 t438 t439).bind fun bt456 => (lockgatelaw04_SpanSigned.j0 k a2 a3 (!(bt454.1 == bt456.1) || (!(bt454.2 == bt456.2))) t436 t437 t438 t439))))))) = some r := H
    have A44 := Aside0.mk A440
    clear A440
    by_cases c45 : (t450 != t451) = true
    ·rw [if_pos c45] at H
     have c45b0 : (t450 != t451) = true := c45
     (try (have c45b1 : decide (t450 = t451) = false := by simpa using c45))
     (try (have c45b2 : (t450 == t451) = false := by simpa using c45))
     (try (have c45b3 : ¬ (t450 = t451) := by simpa using c45))
     clear c45
     exfalso
     cases k with
     | zero => rw [lockgatelaw04_SpanSigned.j0] at H; exact nomatch H
     | succ q_ => rw [lockgatelaw04_SpanSigned.j0, if_pos rfl] at H; exact absurd ((Option.some.inj H).trans HRT.out) (by decide)
    ·rw [if_neg c45] at H
     have c45b0 : (t450 != t451) = false := by simpa using c45
     (try (have c45b1 : decide (t450 = t451) = true := by simpa using c45))
     (try (have c45b2 : (t450 == t451) = true := by simpa using c45))
     clear c45
     replace H := Option.bind_eq_some_iff.mp H
     obtain ⟨t452, A460, H⟩ := H
     replace H : ((lockgateref04_SWithin.f t436 t437 t438 t439).bind fun t453 => (if (t452 != t453) = true then (lockgatelaw04_SpanSigned.j0 k a2 a3 true t436 t437 t438 t439) else ((span_SJoin.f t436 t437 t438 t439).bind fun bt454 => ((lockgateref04_SJoin.f t436 t437 t438 t439).bind fun bt456 => (lockgatelaw04_SpanSigned.j0 k a2 a3 (!(bt454.1 == bt456.1) || (!(bt454.2 == bt456.2))) t436 t437 t438 t439))))) = some r := H
     have A46 := Aside0.mk A460
     clear A460
     replace H := Option.bind_eq_some_iff.mp H
     obtain ⟨t453, A470, H⟩ := H
     replace H : (if (t452 != t453) = true then (lockgatelaw04_SpanSigned.j0 k a2 a3 true t436 t437 t438 t439) else ((span_SJoin.f t436 t437 t438 t439).bind fun bt454 => ((lockgateref04_SJoin.f t436 t437 t438 t439).bind fun bt456 => (lockgatelaw04_SpanSigned.j0 k a2 a3 (!(bt454.1 == bt456.1) || (!(bt454.2 == bt456.2))) t436 t437 t438 t439)))) = some r := H
     have A47 := Aside0.mk A470
     clear A470
     by_cases c48 : (t452 != t453) = true
     ·rw [if_pos c48] at H
      have c48b0 : (t452 != t453) = true := c48
      (try (have c48b1 : decide (t452 = t453) = false := by simpa using c48))
      (try (have c48b2 : (t452 == t453) = false := by simpa using c48))
      (try (have c48b3 : ¬ (t452 = t453) := by simpa using c48))
      clear c48
      exfalso
      cases k with
      | zero => rw [lockgatelaw04_SpanSigned.j0] at H; exact nomatch H
      | succ q_ => rw [lockgatelaw04_SpanSigned.j0, if_pos rfl] at H; exact absurd ((Option.some.inj H).trans HRT.out) (by decide)
     ·rw [if_neg c48] at H
      have c48b0 : (t452 != t453) = false := by simpa using c48
      (try (have c48b1 : decide (t452 = t453) = true := by simpa using c48))
      (try (have c48b2 : (t452 == t453) = true := by simpa using c48))
      clear c48
      replace H := Option.bind_eq_some_iff.mp H
      obtain ⟨⟨t454, t455⟩, A490, H⟩ := H
      replace H : ((lockgateref04_SJoin.f t436 t437 t438 t439).bind fun bt456 => (lockgatelaw04_SpanSigned.j0 k a2 a3 (!(t454 == bt456.1) || (!(t455 == bt456.2))) t436 t437 t438 t439)) = some r := H
      have A49 := Aside0.mk A490
      clear A490
      replace H := Option.bind_eq_some_iff.mp H
      obtain ⟨⟨t456, t457⟩, A500, H⟩ := H
      replace H : (lockgatelaw04_SpanSigned.j0 k a2 a3 (!(t454 == t456) || (!(t455 == t457))) t436 t437 t438 t439) = some r := H
      have A50 := Aside0.mk A500
      clear A500
      have H' := Aside0.mk H
      clear H
      try go_wp2
      have n0_ : Aside0 (((w34.setCell ⟨gb449, 0, none⟩ (.int .i64 t446)).setCell ⟨gb449, 1, none⟩ (.int .i64 t447)).heap[gb434]? = some (.cells #[.int .i64 a0_0, .int .i64 a0_1] 28 (0, 0))) := ⟨by (with_reducible repeat (first | apply bN_ | apply bD_ | apply bA_)); refine blk_far ?_ NB434_449.out _; (with_reducible repeat (first | apply bN_ | apply bD_ | apply bA_)); refine blk_far ?_ NB434_449.out _; (with_reducible repeat (first | apply bN_ | apply bD_ | apply bA_)); exact BK434.out⟩
      have n1_ : Aside0 (((w34.setCell ⟨gb449, 0, none⟩ (.int .i64 t446)).setCell ⟨gb449, 1, none⟩ (.int .i64 t447)).heap[gb435]? = some (.cells #[.int .i64 a1_0, .int .i64 a1_1] 28 (0, 0))) := ⟨by (with_reducible repeat (first | apply bN_ | apply bD_ | apply bA_)); refine blk_far ?_ NB435_449.out _; (with_reducible repeat (first | apply bN_ | apply bD_ | apply bA_)); refine blk_far ?_ NB435_449.out _; (with_reducible repeat (first | apply bN_ | apply bD_ | apply bA_)); exact BK435.out⟩
      have n2_ : Aside0 (((w34.setCell ⟨gb449, 0, none⟩ (.int .i64 t446)).setCell ⟨gb449, 1, none⟩ (.int .i64 t447)).heap[gb440]? = some (.cells #[.int .i64 t436, .int .i64 t437] 28 (0, 0))) := ⟨by (with_reducible repeat (first | apply bN_ | apply bD_ | apply bA_)); refine blk_far ?_ NB440_449.out _; (with_reducible repeat (first | apply bN_ | apply bD_ | apply bA_)); refine blk_far ?_ NB440_449.out _; (with_reducible repeat (first | apply bN_ | apply bD_ | apply bA_)); exact BK440.out⟩
      have n3_ : Aside0 (((w34.setCell ⟨gb449, 0, none⟩ (.int .i64 t446)).setCell ⟨gb449, 1, none⟩ (.int .i64 t447)).heap[gb441]? = some (.cells #[.int .i64 t438, .int .i64 t439] 28 (0, 0))) := ⟨by (with_reducible repeat (first | apply bN_ | apply bD_ | apply bA_)); refine blk_far ?_ NB441_449.out _; (with_reducible repeat (first | apply bN_ | apply bD_ | apply bA_)); refine blk_far ?_ NB441_449.out _; (with_reducible repeat (first | apply bN_ | apply bD_ | apply bA_)); exact BK441.out⟩
      have n4_ : Aside0 (((w34.setCell ⟨gb449, 0, none⟩ (.int .i64 t446)).setCell ⟨gb449, 1, none⟩ (.int .i64 t447)).heap[gb445]? = some (.cells #[.int .i64 t442, .int .i64 t443] 28 (0, 0))) := ⟨by (with_reducible repeat (first | apply bN_ | apply bD_ | apply bA_)); refine blk_far ?_ NB445_449.out _; (with_reducible repeat (first | apply bN_ | apply bD_ | apply bA_)); refine blk_far ?_ NB445_449.out _; (with_reducible repeat (first | apply bN_ | apply bD_ | apply bA_)); exact BK445.out⟩
      have n5_ : Aside0 (((w34.setCell ⟨gb449, 0, none⟩ (.int .i64 t446)).setCell ⟨gb449, 1, none⟩ (.int .i64 t447)).heap[gb449]? = some (.cells #[.int .i64 t446, .int .i64 t447] 28 (0, 0))) := ⟨by (with_reducible repeat (first | apply bN_ | apply bD_ | apply bA_)); refine blk_put (cs := #[.int .i64 t446, .int .i64 0]) ?_ 1 _ rfl; (with_reducible repeat (first | apply bN_ | apply bD_ | apply bA_)); refine blk_put (cs := #[.int .i64 0, .int .i64 0]) ?_ 0 _ rfl; (with_reducible repeat (first | apply bN_ | apply bD_ | apply bA_)); exact BK449.out⟩
      have n6_ : Aside0 (Below w.heap.size w ((w34.setCell ⟨gb449, 0, none⟩ (.int .i64 t446)).setCell ⟨gb449, 1, none⟩ (.int .i64 t447))) := ⟨by repeat (first | (with_reducible first | exact HB.out | apply lA_ | apply lN_ | apply lD_ | refine lS_ ?_ GE434.out | refine lS_ ?_ GE435.out | refine lS_ ?_ GE440.out | refine lS_ ?_ GE441.out | refine lS_ ?_ GE445.out | refine lS_ ?_ GE449.out) | exact HB.out)⟩
      (try clear BK434)
      (try clear BK435)
      (try clear BK440)
      (try clear BK441)
      (try clear BK445)
      (try clear BK449)
      (try clear HB)
      generalize ((w34.setCell ⟨gb449, 0, none⟩ (.int .i64 t446)).setCell ⟨gb449, 1, none⟩ (.int .i64 t447)) = w51 at n0_ n1_ n2_ n3_ n4_ n5_ n6_ ⊢
      have BK434 := n0_
      have BK435 := n1_
      have BK440 := n2_
      have BK441 := n3_
      have BK445 := n4_
      have BK449 := n5_
      have HB := n6_
      clear n0_ n1_ n2_ n3_ n4_ n5_ n6_
      replace BK434 := Aside0.mk (blk_drew BK434.out)
      replace BK435 := Aside0.mk (blk_drew BK435.out)
      replace BK440 := Aside0.mk (blk_drew BK440.out)
      replace BK441 := Aside0.mk (blk_drew BK441.out)
      replace BK445 := Aside0.mk (blk_drew BK445.out)
      replace BK449 := Aside0.mk (blk_drew BK449.out)
      replace HB := Aside0.mk (below_drew1 HB.out)
      refine start_ (n := 35) (S := fun w' => w'.cell? ⟨gb445, 0, none⟩ = some (.int .i64 t442) ∧ w'.cell? ⟨gb445, 1, none⟩ = some (.int .i64 t443) ∧ w'.cell? ⟨gb449, 0, none⟩ = some (.int .i64 t446) ∧ w'.cell? ⟨gb449, 1, none⟩ = some (.int .i64 t447) ∧ w'.cell? ⟨gb440, 0, none⟩ = some (.int .i64 t436) ∧ w'.cell? ⟨gb440, 1, none⟩ = some (.int .i64 t437) ∧ w'.cell? ⟨gb441, 0, none⟩ = some (.int .i64 t438) ∧ w'.cell? ⟨gb441, 1, none⟩ = some (.int .i64 t439)) (ds := []) #[n_,n_,n_,n_,n_,n_,n_,n_,n_,n_,n_,n_,n_,n_,n_,n_,n_,n_,n_,n_,n_,n_,n_,n_,n_,n_,n_,n_,n_,n_,n_,n_,n_,n_,n_] (by kernel_rfl) rfl rfl ⟨c0_ BK445, c1_ BK445, c0_ BK449, c1_ BK449, c0_ BK440, c1_ BK440, c0_ BK441, c1_ BK441⟩ (fun hHeld => ?_); refine with_tabW lockgatelaw04_SpanSigned.tab4 lockgatelaw04_SpanSigned.bits4 (fun HT_ HW_ => ?_)
      generalize w51.drew = w52 at BK434 BK435 BK440 BK441 BK445 BK449 HB hHeld ⊢
      refine tq2_ 0 33 #[y_,n_,n_,n_,n_,n_,n_,n_,n_,n_,n_,n_,n_,n_,n_,n_,n_,n_,n_,n_,n_,n_,n_,n_,n_,n_,n_,n_,n_,n_,n_,n_,n_,n_,n_] hHeld ?_
      refine tq2_ 1 34 #[y_,y_,n_,n_,n_,n_,n_,n_,n_,n_,n_,n_,n_,n_,n_,n_,n_,n_,n_,n_,n_,n_,n_,n_,n_,n_,n_,n_,n_,n_,n_,n_,n_,n_,n_] hHeld ?_
      refine pq_ 2 35 #[y_,y_,y_,n_,n_,n_,n_,n_,n_,n_,n_,n_,n_,n_,n_,n_,n_,n_,n_,n_,n_,n_,n_,n_,n_,n_,n_,n_,n_,n_,n_,n_,n_,n_,n_] ?_
      refine pq_ 3 36 #[y_,y_,y_,y_,n_,n_,n_,n_,n_,n_,n_,n_,n_,n_,n_,n_,n_,n_,n_,n_,n_,n_,n_,n_,n_,n_,n_,n_,n_,n_,n_,n_,n_,n_,n_] ?_
      refine pq_ 4 37 #[y_,y_,y_,y_,y_,n_,n_,n_,n_,n_,n_,n_,n_,n_,n_,n_,n_,n_,n_,n_,n_,n_,n_,n_,n_,n_,n_,n_,n_,n_,n_,n_,n_,n_,n_] ?_
      refine pq_ 5 38 #[y_,y_,y_,y_,y_,y_,n_,n_,n_,n_,n_,n_,n_,n_,n_,n_,n_,n_,n_,n_,n_,n_,n_,n_,n_,n_,n_,n_,n_,n_,n_,n_,n_,n_,n_] ?_
      refine pq_ 6 39 #[y_,y_,y_,y_,y_,y_,y_,n_,n_,n_,n_,n_,n_,n_,n_,n_,n_,n_,n_,n_,n_,n_,n_,n_,n_,n_,n_,n_,n_,n_,n_,n_,n_,n_,n_] ?_
      refine pq_ 7 40 #[y_,y_,y_,y_,y_,y_,y_,y_,n_,n_,n_,n_,n_,n_,n_,n_,n_,n_,n_,n_,n_,n_,n_,n_,n_,n_,n_,n_,n_,n_,n_,n_,n_,n_,n_] ?_
      refine pq_ 8 41 #[y_,y_,y_,y_,y_,y_,y_,y_,y_,n_,n_,n_,n_,n_,n_,n_,n_,n_,n_,n_,n_,n_,n_,n_,n_,n_,n_,n_,n_,n_,n_,n_,n_,n_,n_] ?_
      refine pq_ 10 43 #[y_,y_,y_,y_,y_,y_,y_,y_,y_,n_,y_,n_,n_,n_,n_,n_,n_,n_,n_,n_,n_,n_,n_,n_,n_,n_,n_,n_,n_,n_,n_,n_,n_,n_,n_] ?_
      refine pq_ 13 46 #[y_,y_,y_,y_,y_,y_,y_,y_,y_,n_,y_,n_,n_,y_,n_,n_,n_,n_,n_,n_,n_,n_,n_,n_,n_,n_,n_,n_,n_,n_,n_,n_,n_,n_,n_] ?_
      refine tq2_ 9 42 #[y_,y_,y_,y_,y_,y_,y_,y_,y_,y_,y_,n_,n_,y_,n_,n_,n_,n_,n_,n_,n_,n_,n_,n_,n_,n_,n_,n_,n_,n_,n_,n_,n_,n_,n_] hHeld ?_
      refine tq2_ 12 45 #[y_,y_,y_,y_,y_,y_,y_,y_,y_,y_,y_,n_,y_,y_,n_,n_,n_,n_,n_,n_,n_,n_,n_,n_,n_,n_,n_,n_,n_,n_,n_,n_,n_,n_,n_] hHeld ?_
      refine one_ (i := 11) (N := some 44) #[y_,y_,y_,y_,y_,y_,y_,y_,y_,y_,y_,y_,y_,y_,n_,n_,n_,n_,n_,n_,n_,n_,n_,n_,n_,n_,n_,n_,n_,n_,n_,n_,n_,n_,n_] rfl rfl (one_of HT_.out (by kernel_rfl)) (by decide) (fun K hK => ?_)
      refine goes_ Try.func16 (by kernel_rfl) rfl #[.agg #[.int .i64 t436, .int .i64 t437], .int .u64 a3] (by rfl) rfl rfl (by (try simp only [List.map_toArray, List.map_cons, List.map_nil]); first | done | rfl) ?_
      with_reducible refine (span_SIn.calls t436 t437 a3 t450 _ A43.out).mono ?_
      rintro e w53 ⟨rfl, hb⟩
      refine ⟨_, rfl, ?_⟩
      replace BK434 := bb_ hb BK434
      replace BK435 := bb_ hb BK435
      replace BK440 := bb_ hb BK440
      replace BK441 := bb_ hb BK441
      replace BK445 := bb_ hb BK445
      replace BK449 := bb_ hb BK449
      replace HB := bl_ hb
      try clear hb
      refine hK.out _ _ ⟨c0_ BK445, c1_ BK445, c0_ BK449, c1_ BK449, c0_ BK440, c1_ BK440, c0_ BK441, c1_ BK441⟩ (fun hHeld => ?_)
      clear hK K
      refine norm_ (a' := ?_) ?_ ?_
      rotate_left
      ·show Act.put _ (some 44) _ = _
       simp only [Act.put, s1_, s2_, s3_, i64_w, i32_w]
       rfl
      refine one_ (i := 14) (N := some 47) #[y_,y_,y_,y_,y_,y_,y_,y_,y_,y_,y_,y_,y_,y_,y_,n_,n_,n_,n_,n_,n_,n_,n_,n_,n_,n_,n_,n_,n_,n_,n_,n_,n_,n_,n_] rfl rfl (one_of HT_.out (by kernel_rfl)) (by decide) (fun K hK => ?_)
      refine goes_ Try.func31 (by kernel_rfl) rfl #[.agg #[.int .i64 t436, .int .i64 t437], .int .u64 a3] (by rfl) rfl rfl (by (try simp only [List.map_toArray, List.map_cons, List.map_nil]); first | done | rfl) ?_
      with_reducible refine (lockgateref04_SIn.calls t436 t437 a3 t451 _ A44.out).mono ?_
      rintro e w54 ⟨rfl, hb⟩
      refine ⟨_, rfl, ?_⟩
      replace BK434 := bb_ hb BK434
      replace BK435 := bb_ hb BK435
      replace BK440 := bb_ hb BK440
      replace BK441 := bb_ hb BK441
      replace BK445 := bb_ hb BK445
      replace BK449 := bb_ hb BK449
      replace HB := bl_ hb
      try clear hb
      refine hK.out _ _ ⟨c0_ BK445, c1_ BK445, c0_ BK449, c1_ BK449, c0_ BK440, c1_ BK440, c0_ BK441, c1_ BK441⟩ (fun hHeld => ?_)
      clear hK K
      refine norm_ (a' := ?_) ?_ ?_
      rotate_left
      ·show Act.put _ (some 47) _ = _
       simp only [Act.put, s1_, s2_, s3_, i64_w, i32_w]
       rfl
      refine pq_ 15 48 #[y_,y_,y_,y_,y_,y_,y_,y_,y_,y_,y_,y_,y_,y_,y_,y_,n_,n_,n_,n_,n_,n_,n_,n_,n_,n_,n_,n_,n_,n_,n_,n_,n_,n_,n_] ?_
      refine pq_ 16 49 #[y_,y_,y_,y_,y_,y_,y_,y_,y_,y_,y_,y_,y_,y_,y_,y_,y_,n_,n_,n_,n_,n_,n_,n_,n_,n_,n_,n_,n_,n_,n_,n_,n_,n_,n_] ?_
      refine pq_ 17 50 #[y_,y_,y_,y_,y_,y_,y_,y_,y_,y_,y_,y_,y_,y_,y_,y_,y_,y_,n_,n_,n_,n_,n_,n_,n_,n_,n_,n_,n_,n_,n_,n_,n_,n_,n_] ?_
      refine tq2_ 18 51 #[y_,y_,y_,y_,y_,y_,y_,y_,y_,y_,y_,y_,y_,y_,y_,y_,y_,y_,y_,n_,n_,n_,n_,n_,n_,n_,n_,n_,n_,n_,n_,n_,n_,n_,n_] hHeld ?_
      refine tq2_ 19 52 #[y_,y_,y_,y_,y_,y_,y_,y_,y_,y_,y_,y_,y_,y_,y_,y_,y_,y_,y_,y_,n_,n_,n_,n_,n_,n_,n_,n_,n_,n_,n_,n_,n_,n_,n_] hHeld ?_
      refine tq2_ 21 54 #[y_,y_,y_,y_,y_,y_,y_,y_,y_,y_,y_,y_,y_,y_,y_,y_,y_,y_,y_,y_,n_,y_,n_,n_,n_,n_,n_,n_,n_,n_,n_,n_,n_,n_,n_] hHeld ?_
      refine tq2_ 22 55 #[y_,y_,y_,y_,y_,y_,y_,y_,y_,y_,y_,y_,y_,y_,y_,y_,y_,y_,y_,y_,n_,y_,y_,n_,n_,n_,n_,n_,n_,n_,n_,n_,n_,n_,n_] hHeld ?_
      refine one_ (i := 20) (N := some 53) #[y_,y_,y_,y_,y_,y_,y_,y_,y_,y_,y_,y_,y_,y_,y_,y_,y_,y_,y_,y_,y_,y_,y_,n_,n_,n_,n_,n_,n_,n_,n_,n_,n_,n_,n_] rfl rfl (one_of HT_.out (by kernel_rfl)) (by decide) (fun K hK => ?_)
      refine goes_ Try.func29 (by kernel_rfl) rfl #[.agg #[.int .i64 t436, .int .i64 t437], .agg #[.int .i64 t438, .int .i64 t439]] (by rfl) rfl rfl (by (try simp only [List.map_toArray, List.map_cons, List.map_nil]); first | done | rfl) ?_
      with_reducible refine (span_SWithin.calls t436 t437 t438 t439 t452 _ A46.out).mono ?_
      rintro e w55 ⟨rfl, hb⟩
      refine ⟨_, rfl, ?_⟩
      replace BK434 := bb_ hb BK434
      replace BK435 := bb_ hb BK435
      replace BK440 := bb_ hb BK440
      replace BK441 := bb_ hb BK441
      replace BK445 := bb_ hb BK445
      replace BK449 := bb_ hb BK449
      replace HB := bl_ hb
      try clear hb
      refine hK.out _ _ ⟨c0_ BK445, c1_ BK445, c0_ BK449, c1_ BK449, c0_ BK440, c1_ BK440, c0_ BK441, c1_ BK441⟩ (fun hHeld => ?_)
      clear hK K
      refine norm_ (a' := ?_) ?_ ?_
      rotate_left
      ·show Act.put _ (some 53) _ = _
       simp only [Act.put, s1_, s2_, s3_, i64_w, i32_w]
       rfl
      refine one_ (i := 23) (N := some 56) #[y_,y_,y_,y_,y_,y_,y_,y_,y_,y_,y_,y_,y_,y_,y_,y_,y_,y_,y_,y_,y_,y_,y_,y_,n_,n_,n_,n_,n_,n_,n_,n_,n_,n_,n_] rfl rfl (one_of HT_.out (by kernel_rfl)) (by decide) (fun K hK => ?_)
      refine goes_ Try.func32 (by kernel_rfl) rfl #[.agg #[.int .i64 t436, .int .i64 t437], .agg #[.int .i64 t438, .int .i64 t439]] (by rfl) rfl rfl (by (try simp only [List.map_toArray, List.map_cons, List.map_nil]); first | done | rfl) ?_
      with_reducible refine (lockgateref04_SWithin.calls t436 t437 t438 t439 t453 _ A47.out).mono ?_
      rintro e w56 ⟨rfl, hb⟩
      refine ⟨_, rfl, ?_⟩
      replace BK434 := bb_ hb BK434
      replace BK435 := bb_ hb BK435
      replace BK440 := bb_ hb BK440
      replace BK441 := bb_ hb BK441
      replace BK445 := bb_ hb BK445
      replace BK449 := bb_ hb BK449
      replace HB := bl_ hb
      try clear hb
      refine hK.out _ _ ⟨c0_ BK445, c1_ BK445, c0_ BK449, c1_ BK449, c0_ BK440, c1_ BK440, c0_ BK441, c1_ BK441⟩ (fun hHeld => ?_)
      clear hK K
      refine norm_ (a' := ?_) ?_ ?_
      rotate_left
      ·show Act.put _ (some 56) _ = _
       simp only [Act.put, s1_, s2_, s3_, i64_w, i32_w]
       rfl
      refine pq_ 24 57 #[y_,y_,y_,y_,y_,y_,y_,y_,y_,y_,y_,y_,y_,y_,y_,y_,y_,y_,y_,y_,y_,y_,y_,y_,y_,n_,n_,n_,n_,n_,n_,n_,n_,n_,n_] ?_
      refine pq_ 25 58 #[y_,y_,y_,y_,y_,y_,y_,y_,y_,y_,y_,y_,y_,y_,y_,y_,y_,y_,y_,y_,y_,y_,y_,y_,y_,y_,n_,n_,n_,n_,n_,n_,n_,n_,n_] ?_
      refine pq_ 26 59 #[y_,y_,y_,y_,y_,y_,y_,y_,y_,y_,y_,y_,y_,y_,y_,y_,y_,y_,y_,y_,y_,y_,y_,y_,y_,y_,y_,n_,n_,n_,n_,n_,n_,n_,n_] ?_
      refine tq2_ 27 60 #[y_,y_,y_,y_,y_,y_,y_,y_,y_,y_,y_,y_,y_,y_,y_,y_,y_,y_,y_,y_,y_,y_,y_,y_,y_,y_,y_,y_,n_,n_,n_,n_,n_,n_,n_] hHeld ?_
      refine tq2_ 28 61 #[y_,y_,y_,y_,y_,y_,y_,y_,y_,y_,y_,y_,y_,y_,y_,y_,y_,y_,y_,y_,y_,y_,y_,y_,y_,y_,y_,y_,y_,n_,n_,n_,n_,n_,n_] hHeld ?_
      refine tq2_ 30 63 #[y_,y_,y_,y_,y_,y_,y_,y_,y_,y_,y_,y_,y_,y_,y_,y_,y_,y_,y_,y_,y_,y_,y_,y_,y_,y_,y_,y_,y_,n_,y_,n_,n_,n_,n_] hHeld ?_
      refine tq2_ 31 64 #[y_,y_,y_,y_,y_,y_,y_,y_,y_,y_,y_,y_,y_,y_,y_,y_,y_,y_,y_,y_,y_,y_,y_,y_,y_,y_,y_,y_,y_,n_,y_,y_,n_,n_,n_] hHeld ?_
      refine one_ (i := 29) (N := some 62) #[y_,y_,y_,y_,y_,y_,y_,y_,y_,y_,y_,y_,y_,y_,y_,y_,y_,y_,y_,y_,y_,y_,y_,y_,y_,y_,y_,y_,y_,y_,y_,y_,n_,n_,n_] rfl rfl (one_of HT_.out (by kernel_rfl)) (by decide) (fun K hK => ?_)
      refine goes_ Try.func28 (by kernel_rfl) rfl #[.agg #[.int .i64 t436, .int .i64 t437], .agg #[.int .i64 t438, .int .i64 t439]] (by rfl) rfl rfl (by (try simp only [List.map_toArray, List.map_cons, List.map_nil]); first | done | rfl) ?_
      with_reducible refine (span_SJoin.calls t436 t437 t438 t439 t454 t455 _ A49.out).mono ?_
      rintro e w57 ⟨rfl, hb⟩
      refine ⟨_, rfl, ?_⟩
      replace BK434 := bb_ hb BK434
      replace BK435 := bb_ hb BK435
      replace BK440 := bb_ hb BK440
      replace BK441 := bb_ hb BK441
      replace BK445 := bb_ hb BK445
      replace BK449 := bb_ hb BK449
      replace HB := bl_ hb
      try clear hb
      refine hK.out _ _ ⟨c0_ BK445, c1_ BK445, c0_ BK449, c1_ BK449, c0_ BK440, c1_ BK440, c0_ BK441, c1_ BK441⟩ (fun hHeld => ?_)
      clear hK K
      refine norm_ (a' := ?_) ?_ ?_
      rotate_left
      ·show Act.put _ (some 62) _ = _
       simp only [Act.put, s1_, s2_, s3_, i64_w, i32_w]
       rfl
      refine one_ (i := 32) (N := some 65) #[y_,y_,y_,y_,y_,y_,y_,y_,y_,y_,y_,y_,y_,y_,y_,y_,y_,y_,y_,y_,y_,y_,y_,y_,y_,y_,y_,y_,y_,y_,y_,y_,y_,n_,n_] rfl rfl (one_of HT_.out (by kernel_rfl)) (by decide) (fun K hK => ?_)
      refine goes_ Try.func33 (by kernel_rfl) rfl #[.agg #[.int .i64 t436, .int .i64 t437], .agg #[.int .i64 t438, .int .i64 t439]] (by rfl) rfl rfl (by (try simp only [List.map_toArray, List.map_cons, List.map_nil]); first | done | rfl) ?_
      with_reducible refine (lockgateref04_SJoin.calls t436 t437 t438 t439 t456 t457 _ A50.out).mono ?_
      rintro e w58 ⟨rfl, hb⟩
      refine ⟨_, rfl, ?_⟩
      replace BK434 := bb_ hb BK434
      replace BK435 := bb_ hb BK435
      replace BK440 := bb_ hb BK440
      replace BK441 := bb_ hb BK441
      replace BK445 := bb_ hb BK445
      replace BK449 := bb_ hb BK449
      replace HB := bl_ hb
      try clear hb
      refine hK.out _ _ ⟨c0_ BK445, c1_ BK445, c0_ BK449, c1_ BK449, c0_ BK440, c1_ BK440, c0_ BK441, c1_ BK441⟩ (fun hHeld => ?_)
      clear hK K
      refine norm_ (a' := ?_) ?_ ?_
      rotate_left
      ·show Act.put _ (some 65) _ = _
       simp only [Act.put, s1_, s2_, s3_, i64_w, i32_w]
       rfl
      refine pq_ 33 66 #[y_,y_,y_,y_,y_,y_,y_,y_,y_,y_,y_,y_,y_,y_,y_,y_,y_,y_,y_,y_,y_,y_,y_,y_,y_,y_,y_,y_,y_,y_,y_,y_,y_,y_,n_] ?_
      refine pq_ 34 67 #[y_,y_,y_,y_,y_,y_,y_,y_,y_,y_,y_,y_,y_,y_,y_,y_,y_,y_,y_,y_,y_,y_,y_,y_,y_,y_,y_,y_,y_,y_,y_,y_,y_,y_,y_] ?_
      refine done_ (done_of HT_.out (by kernel_rfl)) ?_
      try go_wp2
      go_meet
      case rel => exact ⟨_, ((!(t454 == t456) || (!(t455 == t457)))), (by first | rfl | (simp; done) | (simp [*]; done)), H', ⟨by first | omega | exact Nat.le_refl _⟩, ⟨by (with_reducible repeat (first | apply bN_ | apply bD_ | apply bA_)); exact BK434.out⟩, ⟨by (with_reducible repeat (first | apply bN_ | apply bD_ | apply bA_)); exact BK435.out⟩, ⟨by (with_reducible repeat (first | apply bN_ | apply bD_ | apply bA_)); exact BK440.out⟩, ⟨by (with_reducible repeat (first | apply bN_ | apply bD_ | apply bA_)); exact BK441.out⟩, ⟨by (with_reducible repeat (first | apply bN_ | apply bD_ | apply bA_)); exact BK445.out⟩, ⟨by (with_reducible repeat (first | apply bN_ | apply bD_ | apply bA_)); exact BK449.out⟩, ⟨by repeat (first | (with_reducible first | exact HB.out | apply lA_ | apply lN_ | apply lD_ | refine lS_ ?_ GE434.out | refine lS_ ?_ GE435.out | refine lS_ ?_ GE440.out | refine lS_ ?_ GE441.out | refine lS_ ?_ GE445.out | refine lS_ ?_ GE449.out) | exact HB.out)⟩⟩
 case rest =>
  clear HC8
  try clear c1
  try clear c2
  try clear p2
  try clear c3
  try clear c4
  try clear c16
  try clear c28
  try clear c29
  try clear c31
  try clear c32
  try clear c33
  try clear c41
  try clear c41b0
  try clear c42
  try clear c42b0
  try clear c42b1
  try clear c42b2
  try clear c45
  try clear c45b0
  try clear c45b1
  try clear c45b2
  try clear c48
  try clear c48b0
  try clear c48b1
  try clear c48b2
  obtain ⟨kq, x67_7, rfl, HA, HJ7, BK434, BK435, BK440, BK441, BK445, BK449, HB⟩ := hcut
  cases kq with
  | zero => exact absurd HA.out (by simp [lockgatelaw04_SpanSigned.j0])
  | succ kj7 =>
   have H := HA.out
   clear HA
   simp only [lockgatelaw04_SpanSigned.j0] at H
   by_cases c59 : x67_7 = true
   ·subst c59
    have H1 : (some false) = some r := by rw [if_pos rfl] at H; exact H
    clear H
    have H := H1
    clear H1
    exact absurd ((Option.some.inj H).trans HRT.out) (by decide)
   ·replace c59 := Bool.eq_false_iff.mpr c59
    subst c59
    have H1 : ((span_SAdd.f t436 t437 t438 t439).bind fun bt458 => ((lockgateref04_SAdd.f t436 t437 t438 t439).bind fun bt460 => (if (!(bt458.1 == bt460.1) || (!(bt458.2 == bt460.2))) = true then (lockgatelaw04_SpanSigned.j1 kj7 a3 true) else ((span_SSub.f t436 t437 t438 t439).bind fun bt462 => ((lockgateref04_SSub.f t436 t437 t438 t439).bind fun bt464 => (if (!(bt462.1 == bt464.1) || (!(bt462.2 == bt464.2))) = true then (lockgatelaw04_SpanSigned.j1 kj7 a3 true) else ((span_SArsh.f t436 t437 a2).bind fun bt466 => ((lockgateref04_SArsh.f kj7 t436 t437 a2).bind fun bt468 => (if (!(bt466.1 == bt468.1) || (!(bt466.2 == bt468.2))) = true then (lockgatelaw04_SpanSigned.j1 kj7 a3 true) else ((span_ToU.f t436 t437).bind fun bt470 => ((lockgateref04_ToU.f t436 t437).bind fun bt472 => (lockgatelaw04_SpanSigned.j1 kj7 a3 (!(bt470.1 == bt472.1) || (!(bt470.2 == bt472.2))))))))))))))) = some r := by rw [if_neg (show ¬ (false = true) by decide)] at H; exact H
    clear H
    have H := H1
    clear H1
    have HC60 := Aside0.mk H
    clear H
    go_upto_region 6 with (fail)
    go_cut [99] (fun v99 wc => ∃ (kq : Nat) (x99_59 : Bool), v99 = .bool x99_59 ∧ Aside0 (lockgatelaw04_SpanSigned.j1 kq a3 x99_59 = some r) ∧ Aside0 (kq ≤ kj7) ∧ Aside0 (wc.heap[gb434]? = some (.cells #[.int .i64 a0_0, .int .i64 a0_1] 28 (0, 0))) ∧ Aside0 (wc.heap[gb435]? = some (.cells #[.int .i64 a1_0, .int .i64 a1_1] 28 (0, 0))) ∧ Aside0 (wc.heap[gb440]? = some (.cells #[.int .i64 t436, .int .i64 t437] 28 (0, 0))) ∧ Aside0 (wc.heap[gb441]? = some (.cells #[.int .i64 t438, .int .i64 t439] 28 (0, 0))) ∧ Aside0 (wc.heap[gb445]? = some (.cells #[.int .i64 t442, .int .i64 t443] 28 (0, 0))) ∧ Aside0 (wc.heap[gb449]? = some (.cells #[.int .i64 t446, .int .i64 t447] 28 (0, 0))) ∧ Aside0 (Below w.heap.size w wc))
    case first =>
     have H := HC60.out
     clear HC60
     replace H := Option.bind_eq_some_iff.mp H
     obtain ⟨⟨t458, t459⟩, A610, H⟩ := H
     replace H : ((lockgateref04_SAdd.f t436 t437 t438 t439).bind fun bt460 => (if (!(t458 == bt460.1) || (!(t459 == bt460.2))) = true then (lockgatelaw04_SpanSigned.j1 kj7 a3 true) else ((span_SSub.f t436 t437 t438 t439).bind fun bt462 => ((lockgateref04_SSub.f t436 t437 t438 t439).bind fun bt464 => (if (!(bt462.1 == bt464.1) || (!(bt462.2 == bt464.2))) = true then (lockgatelaw04_SpanSigned.j1 kj7 a3 true) else ((span_SArsh.f t436 t437 a2).bind fun bt466 => ((lockgateref04_SArsh.f kj7 t436 t437 a2).bind fun bt468 => (if (!(bt466.1 == bt468.1) || (!(bt466.2 == bt468.2))) = true then (lockgatelaw04_SpanSigned.j1 kj7 a3 true) else ((span_ToU.f t436 t437).bind fun bt470 => ((lockgateref04_ToU.f t436 t437).bind fun bt472 => (lockgatelaw04_SpanSigned.j1 kj7 a3 (!(bt470.1 == bt472.1) || (!(bt470.2 == bt472.2)))))))))))))) = some r := H
     have A61 := Aside0.mk A610
     clear A610
     replace H := Option.bind_eq_some_iff.mp H
     obtain ⟨⟨t460, t461⟩, A620, H⟩ := H
     replace H : (if (!(t458 == t460) || (!(t459 == t461))) = true then (lockgatelaw04_SpanSigned.j1 kj7 a3 true) else ((span_SSub.f t436 t437 t438 t439).bind fun bt462 => ((lockgateref04_SSub.f t436 t437 t438 t439).bind fun bt464 => (if (!(bt462.1 == bt464.1) || (!(bt462.2 == bt464.2))) = true then (lockgatelaw04_SpanSigned.j1 kj7 a3 true) else ((span_SArsh.f t436 t437 a2).bind fun bt466 => ((lockgateref04_SArsh.f kj7 t436 t437 a2).bind fun bt468 => (if (!(bt466.1 == bt468.1) || (!(bt466.2 == bt468.2))) = true then (lockgatelaw04_SpanSigned.j1 kj7 a3 true) else ((span_ToU.f t436 t437).bind fun bt470 => ((lockgateref04_ToU.f t436 t437).bind fun bt472 => (lockgatelaw04_SpanSigned.j1 kj7 a3 (!(bt470.1 == bt472.1) || (!(bt470.2 == bt472.2))))))))))))) = some r := H
     have A62 := Aside0.mk A620
     clear A620
     by_cases c63 : (!(t458 == t460) || (!(t459 == t461))) = true
     ·rw [if_pos c63] at H
      have c63b0 : (!(t458 == t460) || (!(t459 == t461))) = true := c63
      clear c63
      (first | rw [c63b0] | (simp only [i64_w, i32_w]; rw [c63b0]) | skip)
      exfalso
      cases kj7 with
      | zero => rw [lockgatelaw04_SpanSigned.j1] at H; exact nomatch H
      | succ q_ => rw [lockgatelaw04_SpanSigned.j1, if_pos rfl] at H; exact absurd ((Option.some.inj H).trans HRT.out) (by decide)
     ·rw [if_neg c63] at H
      have c63b0 : (!(t458 == t460) || (!(t459 == t461))) = false := by simpa using c63
      clear c63
      (first | rw [c63b0] | (simp only [i64_w, i32_w]; rw [c63b0]) | skip)
      replace H := Option.bind_eq_some_iff.mp H
      obtain ⟨⟨t462, t463⟩, A640, H⟩ := H
      replace H : ((lockgateref04_SSub.f t436 t437 t438 t439).bind fun bt464 => (if (!(t462 == bt464.1) || (!(t463 == bt464.2))) = true then (lockgatelaw04_SpanSigned.j1 kj7 a3 true) else ((span_SArsh.f t436 t437 a2).bind fun bt466 => ((lockgateref04_SArsh.f kj7 t436 t437 a2).bind fun bt468 => (if (!(bt466.1 == bt468.1) || (!(bt466.2 == bt468.2))) = true then (lockgatelaw04_SpanSigned.j1 kj7 a3 true) else ((span_ToU.f t436 t437).bind fun bt470 => ((lockgateref04_ToU.f t436 t437).bind fun bt472 => (lockgatelaw04_SpanSigned.j1 kj7 a3 (!(bt470.1 == bt472.1) || (!(bt470.2 == bt472.2))))))))))) = some r := H
      have A64 := Aside0.mk A640
      clear A640
      replace H := Option.bind_eq_some_iff.mp H
      obtain ⟨⟨t464, t465⟩, A650, H⟩ := H
      replace H : (if (!(t462 == t464) || (!(t463 == t465))) = true then (lockgatelaw04_SpanSigned.j1 kj7 a3 true) else ((span_SArsh.f t436 t437 a2).bind fun bt466 => ((lockgateref04_SArsh.f kj7 t436 t437 a2).bind fun bt468 => (if (!(bt466.1 == bt468.1) || (!(bt466.2 == bt468.2))) = true then (lockgatelaw04_SpanSigned.j1 kj7 a3 true) else ((span_ToU.f t436 t437).bind fun bt470 => ((lockgateref04_ToU.f t436 t437).bind fun bt472 => (lockgatelaw04_SpanSigned.j1 kj7 a3 (!(bt470.1 == bt472.1) || (!(bt470.2 == bt472.2)))))))))) = some r := H
      have A65 := Aside0.mk A650
      clear A650
      by_cases c66 : (!(t462 == t464) || (!(t463 == t465))) = true
      ·rw [if_pos c66] at H
       have c66b0 : (!(t462 == t464) || (!(t463 == t465))) = true := c66
       clear c66
       exfalso
       cases kj7 with
       | zero => rw [lockgatelaw04_SpanSigned.j1] at H; exact nomatch H
       | succ q_ => rw [lockgatelaw04_SpanSigned.j1, if_pos rfl] at H; exact absurd ((Option.some.inj H).trans HRT.out) (by decide)
      ·rw [if_neg c66] at H
       have c66b0 : (!(t462 == t464) || (!(t463 == t465))) = false := by simpa using c66
       clear c66
       replace H := Option.bind_eq_some_iff.mp H
       obtain ⟨⟨t466, t467⟩, A670, H⟩ := H
       replace H : ((lockgateref04_SArsh.f kj7 t436 t437 a2).bind fun bt468 => (if (!(t466 == bt468.1) || (!(t467 == bt468.2))) = true then (lockgatelaw04_SpanSigned.j1 kj7 a3 true) else ((span_ToU.f t436 t437).bind fun bt470 => ((lockgateref04_ToU.f t436 t437).bind fun bt472 => (lockgatelaw04_SpanSigned.j1 kj7 a3 (!(bt470.1 == bt472.1) || (!(bt470.2 == bt472.2)))))))) = some r := H
       have A67 := Aside0.mk A670
       clear A670
       replace H := Option.bind_eq_some_iff.mp H
       obtain ⟨⟨t468, t469⟩, A680, H⟩ := H
       replace H : (if (!(t466 == t468) || (!(t467 == t469))) = true then (lockgatelaw04_SpanSigned.j1 kj7 a3 true) else ((span_ToU.f t436 t437).bind fun bt470 => ((lockgateref04_ToU.f t436 t437).bind fun bt472 => (lockgatelaw04_SpanSigned.j1 kj7 a3 (!(bt470.1 == bt472.1) || (!(bt470.2 == bt472.2))))))) = some r := H
       have A68 := Aside0.mk A680
       clear A680
       by_cases c69 : (!(t466 == t468) || (!(t467 == t469))) = true
       ·rw [if_pos c69] at H
        have c69b0 : (!(t466 == t468) || (!(t467 == t469))) = true := c69
        clear c69
        exfalso
        cases kj7 with
        | zero => rw [lockgatelaw04_SpanSigned.j1] at H; exact nomatch H
        | succ q_ => rw [lockgatelaw04_SpanSigned.j1, if_pos rfl] at H; exact absurd ((Option.some.inj H).trans HRT.out) (by decide)
       ·rw [if_neg c69] at H
        have c69b0 : (!(t466 == t468) || (!(t467 == t469))) = false := by simpa using c69
        clear c69
        replace H := Option.bind_eq_some_iff.mp H
        obtain ⟨⟨t470, t471⟩, A700, H⟩ := H
        replace H : ((lockgateref04_ToU.f t436 t437).bind fun bt472 => (lockgatelaw04_SpanSigned.j1 kj7 a3 (!(t470 == bt472.1) || (!(t471 == bt472.2))))) = some r := H
        have A70 := Aside0.mk A700
        clear A700
        replace H := Option.bind_eq_some_iff.mp H
        obtain ⟨⟨t472, t473⟩, A710, H⟩ := H
        replace H : (lockgatelaw04_SpanSigned.j1 kj7 a3 (!(t470 == t472) || (!(t471 == t473)))) = some r := H
        have A71 := Aside0.mk A710
        clear A710
        have H' := Aside0.mk H
        clear H
        try go_wp2
        replace BK434 := Aside0.mk (blk_drew BK434.out)
        replace BK435 := Aside0.mk (blk_drew BK435.out)
        replace BK440 := Aside0.mk (blk_drew BK440.out)
        replace BK441 := Aside0.mk (blk_drew BK441.out)
        replace BK445 := Aside0.mk (blk_drew BK445.out)
        replace BK449 := Aside0.mk (blk_drew BK449.out)
        replace HB := Aside0.mk (below_drew1 HB.out)
        refine start_ (n := 32) (S := fun w' => w'.cell? ⟨gb440, 0, none⟩ = some (.int .i64 t436) ∧ w'.cell? ⟨gb440, 1, none⟩ = some (.int .i64 t437) ∧ w'.cell? ⟨gb441, 0, none⟩ = some (.int .i64 t438) ∧ w'.cell? ⟨gb441, 1, none⟩ = some (.int .i64 t439)) (ds := []) #[n_,n_,n_,n_,n_,n_,n_,n_,n_,n_,n_,n_,n_,n_,n_,n_,n_,n_,n_,n_,n_,n_,n_,n_,n_,n_,n_,n_,n_,n_,n_,n_] (by kernel_rfl) rfl rfl ⟨c0_ BK440, c1_ BK440, c0_ BK441, c1_ BK441⟩ (fun hHeld => ?_); refine with_tabW lockgatelaw04_SpanSigned.tab6 lockgatelaw04_SpanSigned.bits6 (fun HT_ HW_ => ?_)
        generalize wc.drew = w72 at BK434 BK435 BK440 BK441 BK445 BK449 HB hHeld ⊢
        refine tq1_ 0 68 #[y_,n_,n_,n_,n_,n_,n_,n_,n_,n_,n_,n_,n_,n_,n_,n_,n_,n_,n_,n_,n_,n_,n_,n_,n_,n_,n_,n_,n_,n_,n_,n_] hHeld ?_
        refine tq1_ 1 69 #[y_,y_,n_,n_,n_,n_,n_,n_,n_,n_,n_,n_,n_,n_,n_,n_,n_,n_,n_,n_,n_,n_,n_,n_,n_,n_,n_,n_,n_,n_,n_,n_] hHeld ?_
        refine tq1_ 3 71 #[y_,y_,n_,y_,n_,n_,n_,n_,n_,n_,n_,n_,n_,n_,n_,n_,n_,n_,n_,n_,n_,n_,n_,n_,n_,n_,n_,n_,n_,n_,n_,n_] hHeld ?_
        refine tq1_ 4 72 #[y_,y_,n_,y_,y_,n_,n_,n_,n_,n_,n_,n_,n_,n_,n_,n_,n_,n_,n_,n_,n_,n_,n_,n_,n_,n_,n_,n_,n_,n_,n_,n_] hHeld ?_
        refine one_ (i := 2) (N := some 70) #[y_,y_,y_,y_,y_,n_,n_,n_,n_,n_,n_,n_,n_,n_,n_,n_,n_,n_,n_,n_,n_,n_,n_,n_,n_,n_,n_,n_,n_,n_,n_,n_] rfl rfl (one_of HT_.out (by kernel_rfl)) (by decide) (fun K hK => ?_)
        refine goes_ Try.func19 (by kernel_rfl) rfl #[.agg #[.int .i64 t436, .int .i64 t437], .agg #[.int .i64 t438, .int .i64 t439]] (by rfl) rfl rfl (by (try simp only [List.map_toArray, List.map_cons, List.map_nil]); first | done | rfl) ?_
        with_reducible refine (span_SAdd.calls t436 t437 t438 t439 t458 t459 _ A61.out).mono ?_
        rintro e w73 ⟨rfl, hb⟩
        refine ⟨_, rfl, ?_⟩
        replace BK434 := bb_ hb BK434
        replace BK435 := bb_ hb BK435
        replace BK440 := bb_ hb BK440
        replace BK441 := bb_ hb BK441
        replace BK445 := bb_ hb BK445
        replace BK449 := bb_ hb BK449
        replace HB := bl_ hb
        try clear hb
        refine hK.out _ _ ⟨c0_ BK440, c1_ BK440, c0_ BK441, c1_ BK441⟩ (fun hHeld => ?_)
        clear hK K
        refine norm_ (a' := ?_) ?_ ?_
        rotate_left
        ·show Act.put _ (some 70) _ = _
         simp only [Act.put, s1_, s2_, s3_, i64_w, i32_w]
         rfl
        refine one_ (i := 5) (N := some 73) #[y_,y_,y_,y_,y_,y_,n_,n_,n_,n_,n_,n_,n_,n_,n_,n_,n_,n_,n_,n_,n_,n_,n_,n_,n_,n_,n_,n_,n_,n_,n_,n_] rfl rfl (one_of HT_.out (by kernel_rfl)) (by decide) (fun K hK => ?_)
        refine goes_ Try.func34 (by kernel_rfl) rfl #[.agg #[.int .i64 t436, .int .i64 t437], .agg #[.int .i64 t438, .int .i64 t439]] (by rfl) rfl rfl (by (try simp only [List.map_toArray, List.map_cons, List.map_nil]); first | done | rfl) ?_
        with_reducible refine (lockgateref04_SAdd.calls t436 t437 t438 t439 t460 t461 _ A62.out).mono ?_
        rintro e w74 ⟨rfl, hb⟩
        refine ⟨_, rfl, ?_⟩
        replace BK434 := bb_ hb BK434
        replace BK435 := bb_ hb BK435
        replace BK440 := bb_ hb BK440
        replace BK441 := bb_ hb BK441
        replace BK445 := bb_ hb BK445
        replace BK449 := bb_ hb BK449
        replace HB := bl_ hb
        try clear hb
        refine hK.out _ _ ⟨c0_ BK440, c1_ BK440, c0_ BK441, c1_ BK441⟩ (fun hHeld => ?_)
        clear hK K
        refine norm_ (a' := ?_) ?_ ?_
        rotate_left
        ·show Act.put _ (some 73) _ = _
         simp only [Act.put, s1_, s2_, s3_, i64_w, i32_w]
         rfl
        refine pq_ 6 74 #[y_,y_,y_,y_,y_,y_,y_,n_,n_,n_,n_,n_,n_,n_,n_,n_,n_,n_,n_,n_,n_,n_,n_,n_,n_,n_,n_,n_,n_,n_,n_,n_] ?_
        refine pq_ 7 75 #[y_,y_,y_,y_,y_,y_,y_,y_,n_,n_,n_,n_,n_,n_,n_,n_,n_,n_,n_,n_,n_,n_,n_,n_,n_,n_,n_,n_,n_,n_,n_,n_] ?_
        refine tq1_ 8 76 #[y_,y_,y_,y_,y_,y_,y_,y_,y_,n_,n_,n_,n_,n_,n_,n_,n_,n_,n_,n_,n_,n_,n_,n_,n_,n_,n_,n_,n_,n_,n_,n_] hHeld ?_
        refine tq1_ 9 77 #[y_,y_,y_,y_,y_,y_,y_,y_,y_,y_,n_,n_,n_,n_,n_,n_,n_,n_,n_,n_,n_,n_,n_,n_,n_,n_,n_,n_,n_,n_,n_,n_] hHeld ?_
        refine tq1_ 11 79 #[y_,y_,y_,y_,y_,y_,y_,y_,y_,y_,n_,y_,n_,n_,n_,n_,n_,n_,n_,n_,n_,n_,n_,n_,n_,n_,n_,n_,n_,n_,n_,n_] hHeld ?_
        refine tq1_ 12 80 #[y_,y_,y_,y_,y_,y_,y_,y_,y_,y_,n_,y_,y_,n_,n_,n_,n_,n_,n_,n_,n_,n_,n_,n_,n_,n_,n_,n_,n_,n_,n_,n_] hHeld ?_
        refine one_ (i := 10) (N := some 78) #[y_,y_,y_,y_,y_,y_,y_,y_,y_,y_,y_,y_,y_,n_,n_,n_,n_,n_,n_,n_,n_,n_,n_,n_,n_,n_,n_,n_,n_,n_,n_,n_] rfl rfl (one_of HT_.out (by kernel_rfl)) (by decide) (fun K hK => ?_)
        refine goes_ Try.func20 (by kernel_rfl) rfl #[.agg #[.int .i64 t436, .int .i64 t437], .agg #[.int .i64 t438, .int .i64 t439]] (by rfl) rfl rfl (by (try simp only [List.map_toArray, List.map_cons, List.map_nil]); first | done | rfl) ?_
        with_reducible refine (span_SSub.calls t436 t437 t438 t439 t462 t463 _ A64.out).mono ?_
        rintro e w75 ⟨rfl, hb⟩
        refine ⟨_, rfl, ?_⟩
        replace BK434 := bb_ hb BK434
        replace BK435 := bb_ hb BK435
        replace BK440 := bb_ hb BK440
        replace BK441 := bb_ hb BK441
        replace BK445 := bb_ hb BK445
        replace BK449 := bb_ hb BK449
        replace HB := bl_ hb
        try clear hb
        refine hK.out _ _ ⟨c0_ BK440, c1_ BK440, c0_ BK441, c1_ BK441⟩ (fun hHeld => ?_)
        clear hK K
        refine norm_ (a' := ?_) ?_ ?_
        rotate_left
        ·show Act.put _ (some 78) _ = _
         simp only [Act.put, s1_, s2_, s3_, i64_w, i32_w]
         rfl
        refine one_ (i := 13) (N := some 81) #[y_,y_,y_,y_,y_,y_,y_,y_,y_,y_,y_,y_,y_,y_,n_,n_,n_,n_,n_,n_,n_,n_,n_,n_,n_,n_,n_,n_,n_,n_,n_,n_] rfl rfl (one_of HT_.out (by kernel_rfl)) (by decide) (fun K hK => ?_)
        refine goes_ Try.func35 (by kernel_rfl) rfl #[.agg #[.int .i64 t436, .int .i64 t437], .agg #[.int .i64 t438, .int .i64 t439]] (by rfl) rfl rfl (by (try simp only [List.map_toArray, List.map_cons, List.map_nil]); first | done | rfl) ?_
        with_reducible refine (lockgateref04_SSub.calls t436 t437 t438 t439 t464 t465 _ A65.out).mono ?_
        rintro e w76 ⟨rfl, hb⟩
        refine ⟨_, rfl, ?_⟩
        replace BK434 := bb_ hb BK434
        replace BK435 := bb_ hb BK435
        replace BK440 := bb_ hb BK440
        replace BK441 := bb_ hb BK441
        replace BK445 := bb_ hb BK445
        replace BK449 := bb_ hb BK449
        replace HB := bl_ hb
        try clear hb
        refine hK.out _ _ ⟨c0_ BK440, c1_ BK440, c0_ BK441, c1_ BK441⟩ (fun hHeld => ?_)
        clear hK K
        refine norm_ (a' := ?_) ?_ ?_
        rotate_left
        ·show Act.put _ (some 81) _ = _
         simp only [Act.put, s1_, s2_, s3_, i64_w, i32_w]
         rfl
        refine pq_ 14 82 #[y_,y_,y_,y_,y_,y_,y_,y_,y_,y_,y_,y_,y_,y_,y_,n_,n_,n_,n_,n_,n_,n_,n_,n_,n_,n_,n_,n_,n_,n_,n_,n_] ?_
        refine pq_ 15 83 #[y_,y_,y_,y_,y_,y_,y_,y_,y_,y_,y_,y_,y_,y_,y_,y_,n_,n_,n_,n_,n_,n_,n_,n_,n_,n_,n_,n_,n_,n_,n_,n_] ?_
        refine pq_ 16 84 #[y_,y_,y_,y_,y_,y_,y_,y_,y_,y_,y_,y_,y_,y_,y_,y_,y_,n_,n_,n_,n_,n_,n_,n_,n_,n_,n_,n_,n_,n_,n_,n_] ?_
        refine pq_ 18 86 #[y_,y_,y_,y_,y_,y_,y_,y_,y_,y_,y_,y_,y_,y_,y_,y_,y_,n_,y_,n_,n_,n_,n_,n_,n_,n_,n_,n_,n_,n_,n_,n_] ?_
        refine pq_ 21 89 #[y_,y_,y_,y_,y_,y_,y_,y_,y_,y_,y_,y_,y_,y_,y_,y_,y_,n_,y_,n_,n_,y_,n_,n_,n_,n_,n_,n_,n_,n_,n_,n_] ?_
        refine tq1_ 17 85 #[y_,y_,y_,y_,y_,y_,y_,y_,y_,y_,y_,y_,y_,y_,y_,y_,y_,y_,y_,n_,n_,y_,n_,n_,n_,n_,n_,n_,n_,n_,n_,n_] hHeld ?_
        refine tq1_ 20 88 #[y_,y_,y_,y_,y_,y_,y_,y_,y_,y_,y_,y_,y_,y_,y_,y_,y_,y_,y_,n_,y_,y_,n_,n_,n_,n_,n_,n_,n_,n_,n_,n_] hHeld ?_
        refine one_ (i := 19) (N := some 87) #[y_,y_,y_,y_,y_,y_,y_,y_,y_,y_,y_,y_,y_,y_,y_,y_,y_,y_,y_,y_,y_,y_,n_,n_,n_,n_,n_,n_,n_,n_,n_,n_] rfl rfl (one_of HT_.out (by kernel_rfl)) (by decide) (fun K hK => ?_)
        refine goes_ Try.func21 (by kernel_rfl) rfl #[.agg #[.int .i64 t436, .int .i64 t437], .int .i64 a2] (by rfl) rfl rfl (by (try simp only [List.map_toArray, List.map_cons, List.map_nil]); first | done | rfl) ?_
        with_reducible refine (span_SArsh.calls t436 t437 a2 t466 t467 _ A67.out).mono ?_
        rintro e w77 ⟨rfl, hb⟩
        refine ⟨_, rfl, ?_⟩
        replace BK434 := bb_ hb BK434
        replace BK435 := bb_ hb BK435
        replace BK440 := bb_ hb BK440
        replace BK441 := bb_ hb BK441
        replace BK445 := bb_ hb BK445
        replace BK449 := bb_ hb BK449
        replace HB := bl_ hb
        try clear hb
        refine hK.out _ _ ⟨c0_ BK440, c1_ BK440, c0_ BK441, c1_ BK441⟩ (fun hHeld => ?_)
        clear hK K
        refine norm_ (a' := ?_) ?_ ?_
        rotate_left
        ·show Act.put _ (some 87) _ = _
         simp only [Act.put, s1_, s2_, s3_, i64_w, i32_w]
         rfl
        refine one_ (i := 22) (N := some 90) #[y_,y_,y_,y_,y_,y_,y_,y_,y_,y_,y_,y_,y_,y_,y_,y_,y_,y_,y_,y_,y_,y_,y_,n_,n_,n_,n_,n_,n_,n_,n_,n_] rfl rfl (one_of HT_.out (by kernel_rfl)) (by decide) (fun K hK => ?_)
        refine goes_ Try.func36 (by kernel_rfl) rfl #[.agg #[.int .i64 t436, .int .i64 t437], .int .i64 a2] (by rfl) rfl rfl (by (try simp only [List.map_toArray, List.map_cons, List.map_nil]); first | done | rfl) ?_
        with_reducible refine (lockgateref04_SArsh.calls kj7 t436 t437 a2 t468 t469 _ A68.out).mono ?_
        rintro e w78 ⟨rfl, hb⟩
        refine ⟨_, rfl, ?_⟩
        replace BK434 := bb_ hb BK434
        replace BK435 := bb_ hb BK435
        replace BK440 := bb_ hb BK440
        replace BK441 := bb_ hb BK441
        replace BK445 := bb_ hb BK445
        replace BK449 := bb_ hb BK449
        replace HB := bl_ hb
        try clear hb
        refine hK.out _ _ ⟨c0_ BK440, c1_ BK440, c0_ BK441, c1_ BK441⟩ (fun hHeld => ?_)
        clear hK K
        refine norm_ (a' := ?_) ?_ ?_
        rotate_left
        ·show Act.put _ (some 90) _ = _
         simp only [Act.put, s1_, s2_, s3_, i64_w, i32_w]
         rfl
        refine pq_ 23 91 #[y_,y_,y_,y_,y_,y_,y_,y_,y_,y_,y_,y_,y_,y_,y_,y_,y_,y_,y_,y_,y_,y_,y_,y_,n_,n_,n_,n_,n_,n_,n_,n_] ?_
        refine pq_ 24 92 #[y_,y_,y_,y_,y_,y_,y_,y_,y_,y_,y_,y_,y_,y_,y_,y_,y_,y_,y_,y_,y_,y_,y_,y_,y_,n_,n_,n_,n_,n_,n_,n_] ?_
        refine pq_ 25 93 #[y_,y_,y_,y_,y_,y_,y_,y_,y_,y_,y_,y_,y_,y_,y_,y_,y_,y_,y_,y_,y_,y_,y_,y_,y_,y_,n_,n_,n_,n_,n_,n_] ?_
        refine tq1_ 26 94 #[y_,y_,y_,y_,y_,y_,y_,y_,y_,y_,y_,y_,y_,y_,y_,y_,y_,y_,y_,y_,y_,y_,y_,y_,y_,y_,y_,n_,n_,n_,n_,n_] hHeld ?_
        refine tq1_ 28 96 #[y_,y_,y_,y_,y_,y_,y_,y_,y_,y_,y_,y_,y_,y_,y_,y_,y_,y_,y_,y_,y_,y_,y_,y_,y_,y_,y_,n_,y_,n_,n_,n_] hHeld ?_
        refine one_ (i := 27) (N := some 95) #[y_,y_,y_,y_,y_,y_,y_,y_,y_,y_,y_,y_,y_,y_,y_,y_,y_,y_,y_,y_,y_,y_,y_,y_,y_,y_,y_,y_,y_,n_,n_,n_] rfl rfl (one_of HT_.out (by kernel_rfl)) (by decide) (fun K hK => ?_)
        refine goes_ Try.func22 (by kernel_rfl) rfl #[.agg #[.int .i64 t436, .int .i64 t437]] (by rfl) rfl rfl (by (try simp only [List.map_toArray, List.map_cons, List.map_nil]); first | done | rfl) ?_
        with_reducible refine (span_ToU.calls t436 t437 t470 t471 _ A70.out).mono ?_
        rintro e w79 ⟨rfl, hb⟩
        refine ⟨_, rfl, ?_⟩
        replace BK434 := bb_ hb BK434
        replace BK435 := bb_ hb BK435
        replace BK440 := bb_ hb BK440
        replace BK441 := bb_ hb BK441
        replace BK445 := bb_ hb BK445
        replace BK449 := bb_ hb BK449
        replace HB := bl_ hb
        try clear hb
        refine hK.out _ _ ⟨c0_ BK440, c1_ BK440, c0_ BK441, c1_ BK441⟩ (fun hHeld => ?_)
        clear hK K
        refine norm_ (a' := ?_) ?_ ?_
        rotate_left
        ·show Act.put _ (some 95) _ = _
         simp only [Act.put, s1_, s2_, s3_, i64_w, i32_w]
         rfl
        refine one_ (i := 29) (N := some 97) #[y_,y_,y_,y_,y_,y_,y_,y_,y_,y_,y_,y_,y_,y_,y_,y_,y_,y_,y_,y_,y_,y_,y_,y_,y_,y_,y_,y_,y_,y_,n_,n_] rfl rfl (one_of HT_.out (by kernel_rfl)) (by decide) (fun K hK => ?_)
        refine goes_ Try.func37 (by kernel_rfl) rfl #[.agg #[.int .i64 t436, .int .i64 t437]] (by rfl) rfl rfl (by (try simp only [List.map_toArray, List.map_cons, List.map_nil]); first | done | rfl) ?_
        with_reducible refine (lockgateref04_ToU.calls t436 t437 t472 t473 _ A71.out).mono ?_
        rintro e w80 ⟨rfl, hb⟩
        refine ⟨_, rfl, ?_⟩
        replace BK434 := bb_ hb BK434
        replace BK435 := bb_ hb BK435
        replace BK440 := bb_ hb BK440
        replace BK441 := bb_ hb BK441
        replace BK445 := bb_ hb BK445
        replace BK449 := bb_ hb BK449
        replace HB := bl_ hb
        try clear hb
        refine hK.out _ _ ⟨c0_ BK440, c1_ BK440, c0_ BK441, c1_ BK441⟩ (fun hHeld => ?_)
        clear hK K
        refine norm_ (a' := ?_) ?_ ?_
        rotate_left
        ·show Act.put _ (some 97) _ = _
         simp only [Act.put, s1_, s2_, s3_, i64_w, i32_w]
         rfl
        refine pq_ 30 98 #[y_,y_,y_,y_,y_,y_,y_,y_,y_,y_,y_,y_,y_,y_,y_,y_,y_,y_,y_,y_,y_,y_,y_,y_,y_,y_,y_,y_,y_,y_,y_,n_] ?_
        refine pq_ 31 99 #[y_,y_,y_,y_,y_,y_,y_,y_,y_,y_,y_,y_,y_,y_,y_,y_,y_,y_,y_,y_,y_,y_,y_,y_,y_,y_,y_,y_,y_,y_,y_,y_] ?_
        refine done_ (done_of HT_.out (by kernel_rfl)) ?_
        try go_wp2
        go_meet
        case rel => exact ⟨_, ((!(t470 == t472) || (!(t471 == t473)))), (by first | rfl | (simp; done) | (simp [*]; done)), H', ⟨by have := HJ7.out; first | omega | exact Nat.le_refl _⟩, ⟨by (with_reducible repeat (first | apply bN_ | apply bD_ | apply bA_)); exact BK434.out⟩, ⟨by (with_reducible repeat (first | apply bN_ | apply bD_ | apply bA_)); exact BK435.out⟩, ⟨by (with_reducible repeat (first | apply bN_ | apply bD_ | apply bA_)); exact BK440.out⟩, ⟨by (with_reducible repeat (first | apply bN_ | apply bD_ | apply bA_)); exact BK441.out⟩, ⟨by (with_reducible repeat (first | apply bN_ | apply bD_ | apply bA_)); exact BK445.out⟩, ⟨by (with_reducible repeat (first | apply bN_ | apply bD_ | apply bA_)); exact BK449.out⟩, ⟨by repeat (first | (with_reducible first | exact HB.out | apply lA_ | apply lN_ | apply lD_ | refine lS_ ?_ GE434.out | refine lS_ ?_ GE435.out | refine lS_ ?_ GE440.out | refine lS_ ?_ GE441.out | refine lS_ ?_ GE445.out | refine lS_ ?_ GE449.out) | exact HB.out)⟩⟩
    case rest =>
     clear HC60
     try clear c1
     try clear c2
     try clear p2
     try clear c3
     try clear c6
     try clear c19
     try clear c20
     try clear c21
     try clear c22
     try clear c34
     try clear c35
     try clear c36
     try clear c37
     try clear c63
     try clear c63b0
     try clear c66
     try clear c66b0
     try clear c69
     try clear c69b0
     obtain ⟨kq, x99_59, rfl, HA, HJ59, BK434, BK435, BK440, BK441, BK445, BK449, HB⟩ := hcut
     cases kq with
     | zero => exact absurd HA.out (by simp [lockgatelaw04_SpanSigned.j1])
     | succ kj59 =>
      have H := HA.out
      clear HA
      simp only [lockgatelaw04_SpanSigned.j1] at H
      by_cases c81 : x99_59 = true
      ·subst c81
       have H1 : (some false) = some r := by rw [if_pos rfl] at H; exact H
       clear H
       have H := H1
       clear H1
       exact absurd ((Option.some.inj H).trans HRT.out) (by decide)
      ·replace c81 := Bool.eq_false_iff.mpr c81
       subst c81
       have H1 : ((span_SAll.f).bind fun bt474 => ((lockgateref04_SAll.f).bind fun bt476 => (if (bt474.1 == bt476.1 && (bt474.2 == bt476.2)) = true then ((span_SOf.f a3).bind fun bt478 => ((lockgateref04_SOf.f a3).bind fun bt480 => (if (bt478.1 == bt480.1 && (bt478.2 == bt480.2)) = true then ((lockgatelaw04_works.f kj59).bind fun t482 => (some t482)) else (some false)))) else (some false)))) = some r := by rw [if_neg (show ¬ (false = true) by decide)] at H; exact H
       clear H
       have H := H1
       clear H1
       replace H := Option.bind_eq_some_iff.mp H
       obtain ⟨⟨t474, t475⟩, A820, H⟩ := H
       replace H : ((lockgateref04_SAll.f).bind fun bt476 => (if (t474 == bt476.1 && (t475 == bt476.2)) = true then ((span_SOf.f a3).bind fun bt478 => ((lockgateref04_SOf.f a3).bind fun bt480 => (if (bt478.1 == bt480.1 && (bt478.2 == bt480.2)) = true then ((lockgatelaw04_works.f kj59).bind fun t482 => (some t482)) else (some false)))) else (some false))) = some r := H
       have A82 := Aside0.mk A820
       clear A820
       replace H := Option.bind_eq_some_iff.mp H
       obtain ⟨⟨t476, t477⟩, A830, H⟩ := H
       replace H : (if (t474 == t476 && (t475 == t477)) = true then ((span_SOf.f a3).bind fun bt478 => ((lockgateref04_SOf.f a3).bind fun bt480 => (if (bt478.1 == bt480.1 && (bt478.2 == bt480.2)) = true then ((lockgatelaw04_works.f kj59).bind fun t482 => (some t482)) else (some false)))) else (some false)) = some r := H
       have A83 := Aside0.mk A830
       clear A830
       by_cases c84 : (t474 == t476 && (t475 == t477)) = true
       ·rw [if_pos c84] at H
        have c84b0 : (t474 == t476 && (t475 == t477)) = true := c84
        (try (have c84b1 : decide (t474 = t476 && (t475 == t477)) = true := by simpa using c84))
        (try (have c84b2 : (t474 == t476 && (t475 == t477)) = true := by simpa using c84))
        clear c84
        replace H := Option.bind_eq_some_iff.mp H
        obtain ⟨⟨t478, t479⟩, A850, H⟩ := H
        replace H : ((lockgateref04_SOf.f a3).bind fun bt480 => (if (t478 == bt480.1 && (t479 == bt480.2)) = true then ((lockgatelaw04_works.f kj59).bind fun t482 => (some t482)) else (some false))) = some r := H
        have A85 := Aside0.mk A850
        clear A850
        replace H := Option.bind_eq_some_iff.mp H
        obtain ⟨⟨t480, t481⟩, A860, H⟩ := H
        replace H : (if (t478 == t480 && (t479 == t481)) = true then ((lockgatelaw04_works.f kj59).bind fun t482 => (some t482)) else (some false)) = some r := H
        have A86 := Aside0.mk A860
        clear A860
        by_cases c87 : (t478 == t480 && (t479 == t481)) = true
        ·rw [if_pos c87] at H
         have c87b0 : (t478 == t480 && (t479 == t481)) = true := c87
         (try (have c87b1 : decide (t478 = t480 && (t479 == t481)) = true := by simpa using c87))
         (try (have c87b2 : (t478 == t480 && (t479 == t481)) = true := by simpa using c87))
         clear c87
         replace H := Option.bind_eq_some_iff.mp H
         obtain ⟨t482, A880, H⟩ := H
         replace H : (some t482) = some r := H
         have A88 := Aside0.mk A880
         clear A880
         obtain rfl := Option.some.inj H
         go_wp2_with (first | ((with_reducible refine gate_callee (f := 38) rfl ?_); refine goesL_ (some 100) rfl rfl Try.func38 (by kernel_rfl) rfl #[] rfl (by (try simp only [List.map_toArray, List.map_cons, List.map_nil]); first | done | rfl) ?_; (with_reducible refine (span_SAll.calls  t474 t475 _ A82.out).mono ?_); rintro e w89 ⟨rfl, hb⟩; refine ⟨_, rfl, ?_⟩; replace BK434 := bb_ hb BK434; replace BK435 := bb_ hb BK435; replace BK440 := bb_ hb BK440; replace BK441 := bb_ hb BK441; replace BK445 := bb_ hb BK445; replace BK449 := bb_ hb BK449; replace HB := bl_ hb; (try clear hb); (try clear hb2); (try clear hk); (try clear hi)) | ((with_reducible refine gate_callee (f := 39) rfl ?_); refine goesL_ (some 101) rfl rfl Try.func39 (by kernel_rfl) rfl #[] rfl (by (try simp only [List.map_toArray, List.map_cons, List.map_nil]); first | done | rfl) ?_; (with_reducible refine (lockgateref04_SAll.calls  t476 t477 _ A83.out).mono ?_); rintro e w90 ⟨rfl, hb⟩; refine ⟨_, rfl, ?_⟩; replace BK434 := bb_ hb BK434; replace BK435 := bb_ hb BK435; replace BK440 := bb_ hb BK440; replace BK441 := bb_ hb BK441; replace BK445 := bb_ hb BK445; replace BK449 := bb_ hb BK449; replace HB := bl_ hb; (try clear hb); (try clear hb2); (try clear hk); (try clear hi)) | (go_at_call 40; (with_reducible refine (span_SOf.calls a3 t478 t479 _ A85.out).mono ?_); rintro e w91 ⟨rfl, hb⟩; replace BK434 := bb_ hb BK434; replace BK435 := bb_ hb BK435; replace BK440 := bb_ hb BK440; replace BK441 := bb_ hb BK441; replace BK445 := bb_ hb BK445; replace BK449 := bb_ hb BK449; replace HB := bl_ hb; (try clear hb); (try clear hb2); (try clear hk); (try clear hi)) | (go_at_call 41; (with_reducible refine (lockgateref04_SOf.calls a3 t480 t481 _ A86.out).mono ?_); rintro e w92 ⟨rfl, hb⟩; replace BK434 := bb_ hb BK434; replace BK435 := bb_ hb BK435; replace BK440 := bb_ hb BK440; replace BK441 := bb_ hb BK441; replace BK445 := bb_ hb BK445; replace BK449 := bb_ hb BK449; replace HB := bl_ hb; (try clear hb); (try clear hb2); (try clear hk); (try clear hi)) | (go_at_call 14; (with_reducible refine (lockgatelaw04_works.calls kj59  t482 _ A88.out).mono ?_); rintro e w93 ⟨rfl, hb⟩; replace BK434 := bb_ hb BK434; replace BK435 := bb_ hb BK435; replace BK440 := bb_ hb BK440; replace BK441 := bb_ hb BK441; replace BK445 := bb_ hb BK445; replace BK449 := bb_ hb BK449; replace HB := bl_ hb; (try clear hb); (try clear hb2); (try clear hk); (try clear hi)))
         go_ret
         exact ⟨vv_, bz_⟩
        ·rw [if_neg c87] at H
         have c87b0 : (t478 == t480 && (t479 == t481)) = false := by simpa using c87
         (try (have c87b1 : decide (t478 = t480 && (t479 == t481)) = false := by simpa using c87))
         (try (have c87b2 : (t478 == t480 && (t479 == t481)) = false := by simpa using c87))
         (try (have c87b3 : ¬ (t478 = t480 && (t479 == t481)) := by simpa using c87))
         clear c87
         exact absurd ((Option.some.inj H).trans HRT.out) (by decide)
       ·rw [if_neg c84] at H
        have c84b0 : (t474 == t476 && (t475 == t477)) = false := by simpa using c84
        (try (have c84b1 : decide (t474 = t476 && (t475 == t477)) = false := by simpa using c84))
        (try (have c84b2 : (t474 == t476 && (t475 == t477)) = false := by simpa using c84))
        (try (have c84b3 : ¬ (t474 = t476 && (t475 == t477)) := by simpa using c84))
        clear c84
        exact absurd ((Option.some.inj H).trans HRT.out) (by decide)

end Go.Proofs.Ytnephcecobocdaa.PA
