-- PRINTED by print.py (a twelfth state) out of the translation. Not trusted: Lean checks it.
import Derived.Test.YtnephcecobocdaaWTab
import Derived.Test.YtnephcecobocdaaPA0
import Derived.Test.YtnephcecobocdaaSq
import Derived.Test.YtnephcecobocdaaPA1
import Derived.Test.YtnephcecobocdaaPA2
import Derived.Test.YtnephcecobocdaaPA3
import Derived.Test.YtnephcecobocdaaPA6
import Derived.Test.YtnephcecobocdaaPA7
import Derived.Test.YtnephcecobocdaaPA8
import Derived.Test.YtnephcecobocdaaPA9
import Derived.Test.YtnephcecobocdaaPA10
import Derived.Test.YtnephcecobocdaaPA26
namespace Go.Proofs.Ytnephcecobocdaa.PA
open Go.RowKit Go.Proofs.YtnephcecobocdaaW.PrintWords Go.Proofs.YtnephcecobocdaaW.PrintLast Go.Proofs.YtnephcecobocdaaW.PrintMore
attribute [local go_sem] max2_int min2_int max_two min_two max_three min_three max_four min_four   -- for this text's walks alone
set_option linter.unusedVariables false
set_option linter.unusedSimpArgs false

attribute [local go_sem high] eqA24 eqA26 eqA28
/-! ### lockgatelaw04_SpanExact: function 8 -/
mutual
def lockgatelaw04_SpanExact.j0 : Nat → Int → Int → Int → Bool → Int → Int → Int → Int → Option (Bool)
 | 0, _, _, _, _, _, _, _, _ => none
 | k + 1, x0, x1, x2, x45, x515000, x515001, x518000, x518001 => if x45 = true then (some false) else ((span_UAnd.f x515000 x515001 x518000 x518001).bind fun bt530 => ((span_UOf.f (Go.bits .and .u64 x0 x1)).bind fun bt532 => (if (!(bt530.1 == bt532.1) || (!(bt530.2 == bt532.2))) = true then (lockgatelaw04_SpanExact.j1 k x0 x1 true x515000 x515001 x518000 x518001) else ((span_UOr.f k x515000 x515001 x518000 x518001).bind fun bt534 => ((span_UOf.f (Go.bits .or .u64 x0 x1)).bind fun bt536 => (if (!(bt534.1 == bt536.1) || (!(bt534.2 == bt536.2))) = true then (lockgatelaw04_SpanExact.j1 k x0 x1 true x515000 x515001 x518000 x518001) else ((span_URsh.f x515000 x515001 x2).bind fun bt538 => (if 0 ≤ (IntKind.u64.wrap (Go.bits .and .i64 x2 63)) then ((span_UOf.f (shr .u64 x0 (IntKind.u64.wrap (Go.bits .and .i64 x2 63)))).bind fun bt540 => (if (!(bt538.1 == bt540.1) || (!(bt538.2 == bt540.2))) = true then (lockgatelaw04_SpanExact.j1 k x0 x1 true x515000 x515001 x518000 x518001) else ((span_UCut.f x515000 x515001).bind fun bt542 => ((span_UOf.f (Int.tmod x0 4294967296)).bind fun bt544 => (if (!(bt542.1 == bt544.1) || (!(bt542.2 == bt544.2))) = true then (lockgatelaw04_SpanExact.j1 k x0 x1 true x515000 x515001 x518000 x518001) else ((span_ToS.f x515000 x515001).bind fun bt546 => ((span_SOf.f x0).bind fun bt548 => (if (!(bt546.1 == bt548.1) || (!(bt546.2 == bt548.2))) = true then (lockgatelaw04_SpanExact.j1 k x0 x1 true x515000 x515001 x518000 x518001) else ((span_SOf.f x0).bind fun bt550 => ((span_ToU.f bt550.1 bt550.2).bind fun bt552 => (if (!(bt552.1 == x515000) || (!(bt552.2 == x515001))) = true then (lockgatelaw04_SpanExact.j1 k x0 x1 true x515000 x515001 x518000 x518001) else ((span_ToT.f k x515000 x515001).bind fun bt554 => (lockgatelaw04_SpanExact.j1 k x0 x1 (!(bt554.1 == x0) || (!(bt554.2 == 0))) x515000 x515001 x518000 x518001))))))))))))) else (none)))))))))
def lockgatelaw04_SpanExact.j1 : Nat → Int → Int → Bool → Int → Int → Int → Int → Option (Bool)
 | 0, _, _, _, _, _, _, _ => none
 | k + 1, x0, x1, x104, x515000, x515001, x518000, x518001 => if x104 = true then (some false) else (if x1 = 0 then ((lockgatelaw04_works.f k).bind fun t556 => (some t556)) else ((span_UDiv.f x515000 x515001 x518000 x518001).bind fun bt557 => ((span_UOf.f (IntKind.u64.wrap (Int.tdiv x0 x1))).bind fun bt559 => (if (!(bt557.1 == bt559.1) || (!(bt557.2 == bt559.2))) = true then (some false) else ((span_UMod.f k x515000 x515001 x518000 x518001).bind fun bt561 => ((span_UOf.f (Int.tmod x0 x1)).bind fun bt563 => (if (!(bt561.1 == bt563.1) || (!(bt561.2 == bt563.2))) = true then (some false) else ((lockgatelaw04_works.f k).bind fun t565 => (some t565)))))))))
end
def lockgatelaw04_SpanExact.f (k : Nat) (a0 : Int) (a1 : Int) (a2 : Int) : Option (Bool) := (span_UOf.f a0).bind fun bt512 => ((span_UOf.f a1).bind fun bt515 => (if ((IntKind.u64.wrap (a0 + a1)) < a0) then (if a0 ≥ a1 then ((span_USub.f bt512.1 bt512.2 bt515.1 bt515.2).bind fun bt518 => ((span_UOf.f (IntKind.u64.wrap (a0 - a1))).bind fun bt520 => (lockgatelaw04_SpanExact.j0 k a0 a1 a2 (!(bt518.1 == bt520.1) || (!(bt518.2 == bt520.2))) bt512.1 bt512.2 bt515.1 bt515.2))) else (lockgatelaw04_SpanExact.j0 k a0 a1 a2 false bt512.1 bt512.2 bt515.1 bt515.2)) else ((span_UAdd.f bt512.1 bt512.2 bt515.1 bt515.2).bind fun bt522 => ((span_UOf.f (IntKind.u64.wrap (a0 + a1))).bind fun bt524 => (if (!(bt522.1 == bt524.1) || (!(bt522.2 == bt524.2))) = true then (lockgatelaw04_SpanExact.j0 k a0 a1 a2 true bt512.1 bt512.2 bt515.1 bt515.2) else (if a0 ≥ a1 then ((span_USub.f bt512.1 bt512.2 bt515.1 bt515.2).bind fun bt526 => ((span_UOf.f (IntKind.u64.wrap (a0 - a1))).bind fun bt528 => (lockgatelaw04_SpanExact.j0 k a0 a1 a2 (!(bt526.1 == bt528.1) || (!(bt526.2 == bt528.2))) bt512.1 bt512.2 bt515.1 bt515.2))) else (lockgatelaw04_SpanExact.j0 k a0 a1 a2 false bt512.1 bt512.2 bt515.1 bt515.2)))))))
theorem lockgatelaw04_SpanExact.mono_l : ∀ k, (∀ y0 y1 y2 y3 y4 y5 y6 y7, LeO (lockgatelaw04_SpanExact.j0 k y0 y1 y2 y3 y4 y5 y6 y7) (lockgatelaw04_SpanExact.j0 (k + 1) y0 y1 y2 y3 y4 y5 y6 y7)) ∧ (∀ y0 y1 y2 y3 y4 y5 y6, LeO (lockgatelaw04_SpanExact.j1 k y0 y1 y2 y3 y4 y5 y6) (lockgatelaw04_SpanExact.j1 (k + 1) y0 y1 y2 y3 y4 y5 y6))
 | 0 => ⟨fun _ _ _ _ _ _ _ _ r h => by simp [lockgatelaw04_SpanExact.j0] at h, fun _ _ _ _ _ _ _ r h => by simp [lockgatelaw04_SpanExact.j1] at h⟩
 | k + 1 => by
  obtain ⟨ih0, ih1⟩ := lockgatelaw04_SpanExact.mono_l k
  refine ⟨?_, ?_⟩
  ·intro y0 y1 y2 y3 y4 y5 y6 y7
   unfold lockgatelaw04_SpanExact.j0
   repeat' first
   | (with_reducible exact ih0 _ _ _ _ _ _ _ _)
   | (with_reducible exact ih1 _ _ _ _ _ _ _)
   | (with_reducible exact lockgatelaw04_works.mono _)
   | (with_reducible exact span_ToT.mono _ _ _)
   | (with_reducible exact span_UMod.mono _ _ _ _ _)
   | (with_reducible exact span_UOr.mono _ _ _ _ _)
   | (with_reducible exact LeO.refl _)
   | (with_reducible exact LeO.none _)
   | (with_reducible refine LeO.ite ?_ ?_)
   | (with_reducible refine LeO.bind ?_ (fun _ => ?_))
   | exact ih0 _ _ _ _ _ _ _ _
   | exact ih1 _ _ _ _ _ _ _
   | exact lockgatelaw04_works.mono _
   | exact span_ToT.mono _ _ _
   | exact span_UMod.mono _ _ _ _ _
   | exact span_UOr.mono _ _ _ _ _
   | exact LeO.none _
   | refine LeO.ite ?_ ?_
   | refine LeO.bind ?_ (fun _ => ?_)
  ·intro y0 y1 y2 y3 y4 y5 y6
   unfold lockgatelaw04_SpanExact.j1
   repeat' first
   | (with_reducible exact ih0 _ _ _ _ _ _ _ _)
   | (with_reducible exact ih1 _ _ _ _ _ _ _)
   | (with_reducible exact lockgatelaw04_works.mono _)
   | (with_reducible exact span_ToT.mono _ _ _)
   | (with_reducible exact span_UMod.mono _ _ _ _ _)
   | (with_reducible exact span_UOr.mono _ _ _ _ _)
   | (with_reducible exact LeO.refl _)
   | (with_reducible exact LeO.none _)
   | (with_reducible refine LeO.ite ?_ ?_)
   | (with_reducible refine LeO.bind ?_ (fun _ => ?_))
   | exact ih0 _ _ _ _ _ _ _ _
   | exact ih1 _ _ _ _ _ _ _
   | exact lockgatelaw04_works.mono _
   | exact span_ToT.mono _ _ _
   | exact span_UMod.mono _ _ _ _ _
   | exact span_UOr.mono _ _ _ _ _
   | exact LeO.none _
   | refine LeO.ite ?_ ?_
   | refine LeO.bind ?_ (fun _ => ?_)
theorem lockgatelaw04_SpanExact.mono : ∀ a0 a1 a2 k, LeO (lockgatelaw04_SpanExact.f k a0 a1 a2) (lockgatelaw04_SpanExact.f (k + 1) a0 a1 a2) := by
 intro a0 a1 a2 k
 obtain ⟨ih0, ih1⟩ := lockgatelaw04_SpanExact.mono_l k
 unfold lockgatelaw04_SpanExact.f
 repeat' first
  | (with_reducible exact ih0 _ _ _ _ _ _ _ _)
  | (with_reducible exact ih1 _ _ _ _ _ _ _)
  | (with_reducible exact lockgatelaw04_works.mono _)
  | (with_reducible exact span_ToT.mono _ _ _)
  | (with_reducible exact span_UMod.mono _ _ _ _ _)
  | (with_reducible exact span_UOr.mono _ _ _ _ _)
  | (with_reducible exact LeO.refl _)
  | (with_reducible exact LeO.none _)
  | (with_reducible refine LeO.ite ?_ ?_)
  | (with_reducible refine LeO.bind ?_ (fun _ => ?_))
  | exact ih0 _ _ _ _ _ _ _ _
  | exact ih1 _ _ _ _ _ _ _
  | exact lockgatelaw04_works.mono _
  | exact span_ToT.mono _ _ _
  | exact span_UMod.mono _ _ _ _ _
  | exact span_UOr.mono _ _ _ _ _
  | exact LeO.none _
  | refine LeO.ite ?_ ?_
  | refine LeO.bind ?_ (fun _ => ?_)
def lockgatelaw04_SpanExact.T6 : Bool × List (List Nat × List Nat) := (true, [([], []), ([], []), ([0, 1], [0, 1]), ([], []), ([], []), ([3, 4], [3, 4]), ([5, 2], [5]), ([2, 6], [2, 6]), ([7, 6], [7]), ([8], [8]), ([8], [8]), ([9, 10, 8, 8], [8, 9, 10]), ([8], [8]), ([8], [8]), ([12, 13, 8], [8, 12, 13]), ([14, 11, 8], [8, 14]), ([11, 15, 8], [8, 11, 15]), ([8, 16], [8, 16]), ([17, 15], [17]), ([18], [18]), ([18], [18]), ([19, 20, 18, 18], [18, 19, 20]), ([18], [18]), ([18], [18]), ([23, 18], [18, 23]), ([24, 18], [18, 24]), ([22, 25, 18], [18, 22, 25]), ([26, 21, 18], [18, 26]), ([21, 27, 18], [18, 21, 27]), ([18, 28], [18, 28]), ([29, 27], [29]), ([30], [30]), ([31, 30, 30], [30, 31]), ([30], [30]), ([33, 30], [30, 33]), ([34, 32, 30], [30, 34]), ([32, 35, 30], [30, 32, 35]), ([30, 36], [30, 36]), ([37, 35], [37]), ([38], [38]), ([39, 38, 38], [38, 39]), ([38], [38]), ([41, 40, 38], [38, 41]), ([40, 42, 38], [38, 40, 42]), ([38, 43], [38, 43]), ([44, 42], [44]), ([45], [45]), ([46, 45, 45], [45, 46]), ([47, 47, 45], [45, 47]), ([45], [45]), ([48, 49, 45], [45, 48, 49]), ([45, 50], [45, 50]), ([51, 48], [51]), ([52], [52]), ([53, 52, 52], [52, 53]), ([52], [52]), ([55, 52], [52, 55]), ([54, 56, 52], [52, 54, 56]), ([52, 57], [52, 57])])
def lockgatelaw04_SpanExact.B6 : List Nat := [0, 0, 3, 0, 0, 24, 63, 127, 255, 511, 511, 2047, 511, 511, 12799, 32767, 65535, 131071, 262143, 524287, 524287, 2097151, 524287, 524287, 8912895, 25690111, 63438847, 134217727, 268435455, 536870911, 1073741823, 2147483647, 4294967295, 2147483647, 10737418239, 34359738367, 68719476735, 137438953471, 274877906943, 549755813887, 1099511627775, 549755813887, 4398046511103, 8796093022207, 17592186044415, 35184372088831, 70368744177663, 140737488355327, 281474976710655, 70368744177663, 1125899906842623, 2251799813685247, 4503599627370495, 9007199254740991, 18014398509481983, 9007199254740991, 45035996273704959, 144115188075855871, 288230376151711743]
theorem lockgatelaw04_SpanExact.tab6 : rtab .any (opsOf Try.f8 6) = lockgatelaw04_SpanExact.T6 := by kernel_rfl
theorem lockgatelaw04_SpanExact.bits6 : waitsOk lockgatelaw04_SpanExact.T6.2 lockgatelaw04_SpanExact.B6 = true := by kernel_rfl
def lockgatelaw04_SpanExact.T8 : Bool × List (List Nat × List Nat) := (true, [([], []), ([0], [0]), ([1], [1]), ([2], [2]), ([2], [2]), ([3, 4, 2, 2], [2, 3, 4]), ([2], [2]), ([2], [2]), ([6, 7, 2], [2, 6, 7]), ([8, 5, 2], [2, 8]), ([5, 9, 2], [2, 5, 9]), ([10, 9, 2], [2, 10]), ([11], [11]), ([11], [11]), ([12, 13, 11, 11], [11, 12, 13]), ([11], [11]), ([11], [11]), ([15, 16, 11], [11, 15, 16]), ([17, 14, 11], [11, 17]), ([14, 18, 11], [11, 14, 18]), ([11, 19, 2], [2, 11, 19]), ([2, 20], [2, 20])])
def lockgatelaw04_SpanExact.B8 : List Nat := [0, 1, 3, 7, 7, 31, 7, 7, 199, 511, 1023, 2047, 4095, 4095, 16383, 4095, 4095, 102399, 262143, 524287, 1048575, 2097151]
theorem lockgatelaw04_SpanExact.tab8 : rtab .any (opsOf Try.f8 8) = lockgatelaw04_SpanExact.T8 := by kernel_rfl
theorem lockgatelaw04_SpanExact.bits8 : waitsOk lockgatelaw04_SpanExact.T8.2 lockgatelaw04_SpanExact.B8 = true := by kernel_rfl
set_option maxHeartbeats 8000000 in
set_option maxRecDepth 100000 in
theorem lockgatelaw04_SpanExact.calls (k : Nat) (a0 : Int) (a1 : Int) (a2 : Int) (r : Bool) (w : World) (HRT : Aside0 (r = true)) (h : lockgatelaw04_SpanExact.f k a0 a1 a2 = some r) :
 Calls Try.prog 8 #[.int .u64 a0, .int .u64 a1, .int .i64 a2] w fun e w' => e = .returned (.bool r) ∧ Below w.heap.size w w' := by
 have hu26 := Try.underlying26
 have hu24 := Try.underlying24
 have HB := Aside0.mk (Below.refl w.heap.size w)
 have H : ((span_UOf.f a0).bind fun bt512 => ((span_UOf.f a1).bind fun bt515 => (if ((IntKind.u64.wrap (a0 + a1)) < a0) then (if a0 ≥ a1 then ((span_USub.f bt512.1 bt512.2 bt515.1 bt515.2).bind fun bt518 => ((span_UOf.f (IntKind.u64.wrap (a0 - a1))).bind fun bt520 => (lockgatelaw04_SpanExact.j0 k a0 a1 a2 (!(bt518.1 == bt520.1) || (!(bt518.2 == bt520.2))) bt512.1 bt512.2 bt515.1 bt515.2))) else (lockgatelaw04_SpanExact.j0 k a0 a1 a2 false bt512.1 bt512.2 bt515.1 bt515.2)) else ((span_UAdd.f bt512.1 bt512.2 bt515.1 bt515.2).bind fun bt522 => ((span_UOf.f (IntKind.u64.wrap (a0 + a1))).bind fun bt524 => (if (!(bt522.1 == bt524.1) || (!(bt522.2 == bt524.2))) = true then (lockgatelaw04_SpanExact.j0 k a0 a1 a2 true bt512.1 bt512.2 bt515.1 bt515.2) else (if a0 ≥ a1 then ((span_USub.f bt512.1 bt512.2 bt515.1 bt515.2).bind fun bt526 => ((span_UOf.f (IntKind.u64.wrap (a0 - a1))).bind fun bt528 => (lockgatelaw04_SpanExact.j0 k a0 a1 a2 (!(bt526.1 == bt528.1) || (!(bt526.2 == bt528.2))) bt512.1 bt512.2 bt515.1 bt515.2))) else (lockgatelaw04_SpanExact.j0 k a0 a1 a2 false bt512.1 bt512.2 bt515.1 bt515.2)))))))) = some r := h
 clear h
 replace H := Option.bind_eq_some_iff.mp H
 obtain ⟨⟨t512, t513⟩, A40, H⟩ := H
 replace H : ((span_UOf.f a1).bind fun bt515 => (if ((IntKind.u64.wrap (a0 + a1)) < a0) then (if a0 ≥ a1 then ((span_USub.f t512 t513 bt515.1 bt515.2).bind fun bt518 => ((span_UOf.f (IntKind.u64.wrap (a0 - a1))).bind fun bt520 => (lockgatelaw04_SpanExact.j0 k a0 a1 a2 (!(bt518.1 == bt520.1) || (!(bt518.2 == bt520.2))) t512 t513 bt515.1 bt515.2))) else (lockgatelaw04_SpanExact.j0 k a0 a1 a2 false t512 t513 bt515.1 bt515.2)) else ((span_UAdd.f t512 t513 bt515.1 bt515.2).bind fun bt522 => ((span_UOf.f (IntKind.u64.wrap (a0 + a1))).bind fun bt524 => (if (!(bt522.1 == bt524.1) || (!(bt522.2 == bt524.2))) = true then (lockgatelaw04_SpanExact.j0 k a0 a1 a2 true t512 t513 bt515.1 bt515.2) else (if a0 ≥ a1 then ((span_USub.f t512 t513 bt515.1 bt515.2).bind fun bt526 => ((span_UOf.f (IntKind.u64.wrap (a0 - a1))).bind fun bt528 => (lockgatelaw04_SpanExact.j0 k a0 a1 a2 (!(bt526.1 == bt528.1) || (!(bt526.2 == bt528.2))) t512 t513 bt515.1 bt515.2))) else (lockgatelaw04_SpanExact.j0 k a0 a1 a2 false t512 t513 bt515.1 bt515.2))))))) = some r := H
 have A4 := Aside0.mk A40
 clear A40
 replace H := Option.bind_eq_some_iff.mp H
 obtain ⟨⟨t515, t516⟩, A50, H⟩ := H
 replace H : (if ((IntKind.u64.wrap (a0 + a1)) < a0) then (if a0 ≥ a1 then ((span_USub.f t512 t513 t515 t516).bind fun bt518 => ((span_UOf.f (IntKind.u64.wrap (a0 - a1))).bind fun bt520 => (lockgatelaw04_SpanExact.j0 k a0 a1 a2 (!(bt518.1 == bt520.1) || (!(bt518.2 == bt520.2))) t512 t513 t515 t516))) else (lockgatelaw04_SpanExact.j0 k a0 a1 a2 false t512 t513 t515 t516)) else ((span_UAdd.f t512 t513 t515 t516).bind fun bt522 => ((span_UOf.f (IntKind.u64.wrap (a0 + a1))).bind fun bt524 => (if (!(bt522.1 == bt524.1) || (!(bt522.2 == bt524.2))) = true then (lockgatelaw04_SpanExact.j0 k a0 a1 a2 true t512 t513 t515 t516) else (if a0 ≥ a1 then ((span_USub.f t512 t513 t515 t516).bind fun bt526 => ((span_UOf.f (IntKind.u64.wrap (a0 - a1))).bind fun bt528 => (lockgatelaw04_SpanExact.j0 k a0 a1 a2 (!(bt526.1 == bt528.1) || (!(bt526.2 == bt528.2))) t512 t513 t515 t516))) else (lockgatelaw04_SpanExact.j0 k a0 a1 a2 false t512 t513 t515 t516)))))) = some r := H
 have A5 := Aside0.mk A50
 clear A50
 have HC6 := Aside0.mk H
 clear H
 go_enter Try.func8, Try.ntmps8
 go_upto_region 4 with (first | ((with_reducible refine gate_callee (f := 42) rfl ?_); refine goesL_ (some 11) rfl rfl Try.func42 (by kernel_rfl) rfl #[.int .u64 a0] rfl (by (try simp only [List.map_toArray, List.map_cons, List.map_nil]); first | done | rfl) ?_; (with_reducible refine (span_UOf.calls a0 t512 t513 _ A4.out).mono ?_); rintro e w7 ⟨rfl, hb⟩; refine ⟨_, rfl, ?_⟩; replace HB := bl_ hb; (try clear hb); (try clear hb2); (try clear hk); (try clear hi)) | ((with_reducible refine gate_dst (N := 7) rfl ?_); refine bx_ 7 #[.int .u64 0, .int .u64 0] 26 ?_; intro gb514 hg w8 BK514 hb; have GW514 := bg_ hg; have GE514 := GW514; replace HB := bl_ hb; clear hb hg; have hcz9_0 := c0_ BK514; have hcz9_1 := c1_ BK514; have hfz9_0 := fz_ BK514 0; have hfz9_1 := fz_ BK514 1) | ((with_reducible refine gate_callee (f := 42) rfl ?_); refine goesL_ (some 13) rfl rfl Try.func42 (by kernel_rfl) rfl #[.int .u64 a1] rfl (by (try simp only [List.map_toArray, List.map_cons, List.map_nil]); first | done | rfl) ?_; (with_reducible refine (span_UOf.calls a1 t515 t516 _ A5.out).mono ?_); rintro e w10 ⟨rfl, hb⟩; refine ⟨_, rfl, ?_⟩; replace BK514 := Aside0.mk (blk_below (g := gb514) (o := .cells #[.int .u64 t512, .int .u64 t513] 26 (0, 0)) (by (with_reducible repeat (first | apply bN_ | apply bD_ | apply bA_)); refine blk_put (cs := #[.int .u64 t512, .int .u64 0]) ?_ 1 _ rfl; (with_reducible repeat (first | apply bN_ | apply bD_ | apply bA_)); refine blk_put (cs := #[.int .u64 0, .int .u64 0]) ?_ 0 _ rfl; exact bk_) hb); replace HB := bl_ hb; (try clear hb); (try clear hb2); (try clear hk); (try clear hi)) | ((with_reducible refine gate_dst (N := 8) rfl ?_); refine bx_ 8 #[.int .u64 0, .int .u64 0] 26 ?_; intro gb517 hg w11 BK517 hb; have GW517 := bg_ hg; have GE517 := GW517; have NB514_517 := bm_ hg BK514; have NB517_514 := bn_ hg BK514; replace BK514 := bb_ hb BK514; replace HB := bl_ hb; clear hb hg; have hnb12 := NB517_514.out; have hnc12 := NB514_517.out; have hcz13_0 := c0_ BK517; have hcz13_1 := c1_ BK517; have hfz13_0 := fz_ BK517 0; have hfz13_1 := fz_ BK517 1))
 (try simp only [Act.put, s1_, s2_, s3_])
 go_cut [45] (fun v45 wc => ∃ (kq : Nat) (x45_5 : Bool), v45 = .bool x45_5 ∧ Aside0 (lockgatelaw04_SpanExact.j0 kq a0 a1 a2 x45_5 t512 t513 t515 t516 = some r) ∧ Aside0 (kq ≤ k) ∧ Aside0 (wc.heap[gb514]? = some (.cells #[.int .u64 t512, .int .u64 t513] 26 (0, 0))) ∧ Aside0 (wc.heap[gb517]? = some (.cells #[.int .u64 t515, .int .u64 t516] 26 (0, 0))) ∧ Aside0 (Below w.heap.size w wc))
 case first =>
  have H := HC6.out
  clear HC6
  by_cases c14 : ((IntKind.u64.wrap (a0 + a1)) < a0)
  ·rw [if_pos c14] at H
   have c14b0 : decide ((IntKind.u64.wrap (a0 + a1)) < a0) = true := decide_eq_true c14
   clear c14
   (first | rw [c14b0] | (simp only [i64_w, i32_w]; rw [c14b0]) | skip)
   by_cases c15 : a0 ≥ a1
   ·rw [if_pos c15] at H
    have c15b0 : decide (a1 ≤ a0) = true := decide_eq_true c15
    clear c15
    replace H := Option.bind_eq_some_iff.mp H
    obtain ⟨⟨t518, t519⟩, A160, H⟩ := H
    replace H : ((span_UOf.f (IntKind.u64.wrap (a0 - a1))).bind fun bt520 => (lockgatelaw04_SpanExact.j0 k a0 a1 a2 (!(t518 == bt520.1) || (!(t519 == bt520.2))) t512 t513 t515 t516)) = some r := H
    have A16 := Aside0.mk A160
    clear A160
    replace H := Option.bind_eq_some_iff.mp H
    obtain ⟨⟨t520, t521⟩, A170, H⟩ := H
    replace H : (lockgatelaw04_SpanExact.j0 k a0 a1 a2 (!(t518 == t520) || (!(t519 == t521))) t512 t513 t515 t516) = some r := H
    have A17 := Aside0.mk A170
    clear A170
    have H' := Aside0.mk H
    clear H
    have hnb18 := NB514_517.out
    have hnc18 := NB517_514.out
    have hcz19_0 := c0_ BK514
    have hcz19_1 := c1_ BK514
    have hfz19_0 := fz_ BK514 0
    have hfz19_1 := fz_ BK514 1
    have hcz20_0 := c0_ BK517
    have hcz20_1 := c1_ BK517
    have hfz20_0 := fz_ BK517 0
    have hfz20_1 := fz_ BK517 1
    go_wp2_with (first | (go_at_call 44; (with_reducible refine (span_USub.calls t512 t513 t515 t516 t518 t519 _ A16.out).mono ?_); rintro e w21 ⟨rfl, hb⟩; replace BK514 := Aside0.mk (blk_below (g := gb514) (o := .cells #[.int .u64 t512, .int .u64 t513] 26 (0, 0)) (by (with_reducible repeat (first | apply bN_ | apply bD_ | apply bA_)); refine blk_far ?_ NB514_517.out _; (with_reducible repeat (first | apply bN_ | apply bD_ | apply bA_)); refine blk_far ?_ NB514_517.out _; exact bk_) hb); replace BK517 := Aside0.mk (blk_below (g := gb517) (o := .cells #[.int .u64 t515, .int .u64 t516] 26 (0, 0)) (by (with_reducible repeat (first | apply bN_ | apply bD_ | apply bA_)); refine blk_put (cs := #[.int .u64 t515, .int .u64 0]) ?_ 1 _ rfl; (with_reducible repeat (first | apply bN_ | apply bD_ | apply bA_)); refine blk_put (cs := #[.int .u64 0, .int .u64 0]) ?_ 0 _ rfl; exact bk_) hb); replace HB := bl_ hb; (try clear hb); (try clear hb2); (try clear hk); (try clear hi)) | (go_at_call 42; (with_reducible refine (span_UOf.calls (IntKind.u64.wrap (a0 - a1)) t520 t521 _ A17.out).mono ?_); rintro e w22 ⟨rfl, hb⟩; replace BK514 := bb_ hb BK514; replace BK517 := bb_ hb BK517; replace HB := bl_ hb; (try clear hb); (try clear hb2); (try clear hk); (try clear hi)))
    (first | go_meet | (refine Met.intro ?_; go_step; (simp only [c15b0, c14b0] at H' ⊢); (repeat apply Exists.intro); refine ⟨?rel, rfl⟩))
    case rel => exact ⟨_, ((!(t518 == t520) || (!(t519 == t521)))), (by first | rfl | (simp; done) | (simp [*]; done)), H', ⟨by first | omega | exact Nat.le_refl _⟩, ⟨by exact bk_⟩, ⟨by exact bk_⟩, ⟨by repeat (first | (with_reducible first | exact HB.out | apply lA_ | apply lN_ | apply lD_ | refine lS_ ?_ GE514.out | refine lS_ ?_ GE517.out) | exact HB.out)⟩⟩
   ·rw [if_neg c15] at H
    have c15b0 : decide (a1 ≤ a0) = false := decide_eq_false c15
    clear c15
    have H' := Aside0.mk H
    clear H
    go_wp2
    (first | go_meet | (refine Met.intro ?_; go_step; (simp only [c15b0, c14b0] at H' ⊢); (repeat apply Exists.intro); refine ⟨?rel, rfl⟩))
    case rel => exact ⟨_, (false), (by first | rfl | (simp; done) | (simp [*]; done)), H', ⟨by first | omega | exact Nat.le_refl _⟩, ⟨by (with_reducible repeat (first | apply bN_ | apply bD_ | apply bA_)); refine blk_far ?_ NB514_517.out _; (with_reducible repeat (first | apply bN_ | apply bD_ | apply bA_)); refine blk_far ?_ NB514_517.out _; exact bk_⟩, ⟨by (with_reducible repeat (first | apply bN_ | apply bD_ | apply bA_)); refine blk_put (cs := #[.int .u64 t515, .int .u64 0]) ?_ 1 _ rfl; (with_reducible repeat (first | apply bN_ | apply bD_ | apply bA_)); refine blk_put (cs := #[.int .u64 0, .int .u64 0]) ?_ 0 _ rfl; exact bk_⟩, ⟨by repeat (first | (with_reducible first | exact HB.out | apply lA_ | apply lN_ | apply lD_ | refine lS_ ?_ GE514.out | refine lS_ ?_ GE517.out) | exact HB.out)⟩⟩
  ·rw [if_neg c14] at H
   have c14b0 : decide ((IntKind.u64.wrap (a0 + a1)) < a0) = false := decide_eq_false c14
   clear c14
   (first | rw [c14b0] | (simp only [i64_w, i32_w]; rw [c14b0]) | skip)
   replace H := Option.bind_eq_some_iff.mp H
   obtain ⟨⟨t522, t523⟩, A230, H⟩ := H
   replace H : ((span_UOf.f (IntKind.u64.wrap (a0 + a1))).bind fun bt524 => (if (!(t522 == bt524.1) || (!(t523 == bt524.2))) = true then (lockgatelaw04_SpanExact.j0 k a0 a1 a2 true t512 t513 t515 t516) else (if a0 ≥ a1 then ((span_USub.f t512 t513 t515 t516).bind fun bt526 => ((span_UOf.f (IntKind.u64.wrap (a0 - a1))).bind fun bt528 => (lockgatelaw04_SpanExact.j0 k a0 a1 a2 (!(bt526.1 == bt528.1) || (!(bt526.2 == bt528.2))) t512 t513 t515 t516))) else (lockgatelaw04_SpanExact.j0 k a0 a1 a2 false t512 t513 t515 t516)))) = some r := H
   have A23 := Aside0.mk A230
   clear A230
   replace H := Option.bind_eq_some_iff.mp H
   obtain ⟨⟨t524, t525⟩, A240, H⟩ := H
   replace H : (if (!(t522 == t524) || (!(t523 == t525))) = true then (lockgatelaw04_SpanExact.j0 k a0 a1 a2 true t512 t513 t515 t516) else (if a0 ≥ a1 then ((span_USub.f t512 t513 t515 t516).bind fun bt526 => ((span_UOf.f (IntKind.u64.wrap (a0 - a1))).bind fun bt528 => (lockgatelaw04_SpanExact.j0 k a0 a1 a2 (!(bt526.1 == bt528.1) || (!(bt526.2 == bt528.2))) t512 t513 t515 t516))) else (lockgatelaw04_SpanExact.j0 k a0 a1 a2 false t512 t513 t515 t516))) = some r := H
   have A24 := Aside0.mk A240
   clear A240
   by_cases c25 : (!(t522 == t524) || (!(t523 == t525))) = true
   ·rw [if_pos c25] at H
    have c25b0 : (!(t522 == t524) || (!(t523 == t525))) = true := c25
    clear c25
    exfalso
    cases k with
    | zero => rw [lockgatelaw04_SpanExact.j0] at H; exact nomatch H
    | succ q_ => rw [lockgatelaw04_SpanExact.j0, if_pos rfl] at H; exact absurd ((Option.some.inj H).trans HRT.out) (by decide)
   ·rw [if_neg c25] at H
    have c25b0 : (!(t522 == t524) || (!(t523 == t525))) = false := by simpa using c25
    clear c25
    by_cases c26 : a0 ≥ a1
    ·rw [if_pos c26] at H
     have c26b0 : decide (a1 ≤ a0) = true := decide_eq_true c26
     clear c26
     replace H := Option.bind_eq_some_iff.mp H
     obtain ⟨⟨t526, t527⟩, A270, H⟩ := H
     replace H : ((span_UOf.f (IntKind.u64.wrap (a0 - a1))).bind fun bt528 => (lockgatelaw04_SpanExact.j0 k a0 a1 a2 (!(t526 == bt528.1) || (!(t527 == bt528.2))) t512 t513 t515 t516)) = some r := H
     have A27 := Aside0.mk A270
     clear A270
     replace H := Option.bind_eq_some_iff.mp H
     obtain ⟨⟨t528, t529⟩, A280, H⟩ := H
     replace H : (lockgatelaw04_SpanExact.j0 k a0 a1 a2 (!(t526 == t528) || (!(t527 == t529))) t512 t513 t515 t516) = some r := H
     have A28 := Aside0.mk A280
     clear A280
     have H' := Aside0.mk H
     clear H
     have hnb29 := NB514_517.out
     have hnc29 := NB517_514.out
     have hcz30_0 := c0_ BK514
     have hcz30_1 := c1_ BK514
     have hfz30_0 := fz_ BK514 0
     have hfz30_1 := fz_ BK514 1
     have hcz31_0 := c0_ BK517
     have hcz31_1 := c1_ BK517
     have hfz31_0 := fz_ BK517 0
     have hfz31_1 := fz_ BK517 1
     go_wp2_with (first | (go_at_call 43; (with_reducible refine (span_UAdd.calls t512 t513 t515 t516 t522 t523 _ A23.out).mono ?_); rintro e w32 ⟨rfl, hb⟩; replace BK514 := Aside0.mk (blk_below (g := gb514) (o := .cells #[.int .u64 t512, .int .u64 t513] 26 (0, 0)) (by (with_reducible repeat (first | apply bN_ | apply bD_ | apply bA_)); refine blk_far ?_ NB514_517.out _; (with_reducible repeat (first | apply bN_ | apply bD_ | apply bA_)); refine blk_far ?_ NB514_517.out _; exact bk_) hb); replace BK517 := Aside0.mk (blk_below (g := gb517) (o := .cells #[.int .u64 t515, .int .u64 t516] 26 (0, 0)) (by (with_reducible repeat (first | apply bN_ | apply bD_ | apply bA_)); refine blk_put (cs := #[.int .u64 t515, .int .u64 0]) ?_ 1 _ rfl; (with_reducible repeat (first | apply bN_ | apply bD_ | apply bA_)); refine blk_put (cs := #[.int .u64 0, .int .u64 0]) ?_ 0 _ rfl; exact bk_) hb); replace HB := bl_ hb; (try clear hb); (try clear hb2); (try clear hk); (try clear hi)) | (go_at_call 42; (with_reducible refine (span_UOf.calls (IntKind.u64.wrap (a0 + a1)) t524 t525 _ A24.out).mono ?_); rintro e w33 ⟨rfl, hb⟩; replace BK514 := bb_ hb BK514; replace BK517 := bb_ hb BK517; replace HB := bl_ hb; (try clear hb); (try clear hb2); (try clear hk); (try clear hi); have hcz34_0 := c0_ BK514; have hcz34_1 := c1_ BK514; have hfz34_0 := fz_ BK514 0; have hfz34_1 := fz_ BK514 1; have hcz35_0 := c0_ BK517; have hcz35_1 := c1_ BK517; have hfz35_0 := fz_ BK517 0; have hfz35_1 := fz_ BK517 1) | (go_at_call 44; (with_reducible refine (span_USub.calls t512 t513 t515 t516 t526 t527 _ A27.out).mono ?_); rintro e w36 ⟨rfl, hb⟩; replace BK514 := bb_ hb BK514; replace BK517 := bb_ hb BK517; replace HB := bl_ hb; (try clear hb); (try clear hb2); (try clear hk); (try clear hi)) | (go_at_call 42; (with_reducible refine (span_UOf.calls (IntKind.u64.wrap (a0 - a1)) t528 t529 _ A28.out).mono ?_); rintro e w37 ⟨rfl, hb⟩; replace BK514 := bb_ hb BK514; replace BK517 := bb_ hb BK517; replace HB := bl_ hb; (try clear hb); (try clear hb2); (try clear hk); (try clear hi)))
     (first | go_meet | (refine Met.intro ?_; go_step; (simp only [c26b0, c25b0, c14b0] at H' ⊢); (repeat apply Exists.intro); refine ⟨?rel, rfl⟩))
     case rel => exact ⟨_, ((!(t526 == t528) || (!(t527 == t529)))), (by first | rfl | (simp; done) | (simp [*]; done)), H', ⟨by first | omega | exact Nat.le_refl _⟩, ⟨by exact bk_⟩, ⟨by exact bk_⟩, ⟨by repeat (first | (with_reducible first | exact HB.out | apply lA_ | apply lN_ | apply lD_ | refine lS_ ?_ GE514.out | refine lS_ ?_ GE517.out) | exact HB.out)⟩⟩
    ·rw [if_neg c26] at H
     have c26b0 : decide (a1 ≤ a0) = false := decide_eq_false c26
     clear c26
     have H' := Aside0.mk H
     clear H
     have hnb38 := NB514_517.out
     have hnc38 := NB517_514.out
     have hcz39_0 := c0_ BK514
     have hcz39_1 := c1_ BK514
     have hfz39_0 := fz_ BK514 0
     have hfz39_1 := fz_ BK514 1
     have hcz40_0 := c0_ BK517
     have hcz40_1 := c1_ BK517
     have hfz40_0 := fz_ BK517 0
     have hfz40_1 := fz_ BK517 1
     go_wp2_with (first | (go_at_call 43; (with_reducible refine (span_UAdd.calls t512 t513 t515 t516 t522 t523 _ A23.out).mono ?_); rintro e w41 ⟨rfl, hb⟩; replace BK514 := Aside0.mk (blk_below (g := gb514) (o := .cells #[.int .u64 t512, .int .u64 t513] 26 (0, 0)) (by (with_reducible repeat (first | apply bN_ | apply bD_ | apply bA_)); refine blk_far ?_ NB514_517.out _; (with_reducible repeat (first | apply bN_ | apply bD_ | apply bA_)); refine blk_far ?_ NB514_517.out _; exact bk_) hb); replace BK517 := Aside0.mk (blk_below (g := gb517) (o := .cells #[.int .u64 t515, .int .u64 t516] 26 (0, 0)) (by (with_reducible repeat (first | apply bN_ | apply bD_ | apply bA_)); refine blk_put (cs := #[.int .u64 t515, .int .u64 0]) ?_ 1 _ rfl; (with_reducible repeat (first | apply bN_ | apply bD_ | apply bA_)); refine blk_put (cs := #[.int .u64 0, .int .u64 0]) ?_ 0 _ rfl; exact bk_) hb); replace HB := bl_ hb; (try clear hb); (try clear hb2); (try clear hk); (try clear hi)) | (go_at_call 42; (with_reducible refine (span_UOf.calls (IntKind.u64.wrap (a0 + a1)) t524 t525 _ A24.out).mono ?_); rintro e w42 ⟨rfl, hb⟩; replace BK514 := bb_ hb BK514; replace BK517 := bb_ hb BK517; replace HB := bl_ hb; (try clear hb); (try clear hb2); (try clear hk); (try clear hi)))
     (first | go_meet | (refine Met.intro ?_; go_step; (simp only [c26b0, c25b0, c14b0] at H' ⊢); (repeat apply Exists.intro); refine ⟨?rel, rfl⟩))
     case rel => exact ⟨_, (false), (by first | rfl | (simp; done) | (simp [*]; done)), H', ⟨by first | omega | exact Nat.le_refl _⟩, ⟨by exact bk_⟩, ⟨by exact bk_⟩, ⟨by repeat (first | (with_reducible first | exact HB.out | apply lA_ | apply lN_ | apply lD_ | refine lS_ ?_ GE514.out | refine lS_ ?_ GE517.out) | exact HB.out)⟩⟩
 case rest =>
  clear HC6
  try clear c1
  try clear c2
  try clear p2
  try clear c3
  try clear c4
  try clear c8
  try clear c12
  try clear c14
  try clear c14b0
  try clear c15
  try clear c15b0
  try clear c18
  try clear c25
  try clear c25b0
  try clear c26
  try clear c26b0
  try clear c29
  try clear c38
  try clear c42
  try clear hcz13_0
  try clear hcz13_1
  try clear hcz19_0
  try clear hcz19_1
  try clear hcz20_0
  try clear hcz20_1
  try clear hcz30_0
  try clear hcz30_1
  try clear hcz31_0
  try clear hcz31_1
  try clear hcz34_0
  try clear hcz34_1
  try clear hcz35_0
  try clear hcz35_1
  try clear hcz39_0
  try clear hcz39_1
  try clear hcz40_0
  try clear hcz40_1
  try clear hcz9_0
  try clear hcz9_1
  try clear hfz13_0
  try clear hfz13_1
  try clear hfz19_0
  try clear hfz19_1
  try clear hfz20_0
  try clear hfz20_1
  try clear hfz30_0
  try clear hfz30_1
  try clear hfz31_0
  try clear hfz31_1
  try clear hfz34_0
  try clear hfz34_1
  try clear hfz35_0
  try clear hfz35_1
  try clear hfz39_0
  try clear hfz39_1
  try clear hfz40_0
  try clear hfz40_1
  try clear hfz9_0
  try clear hfz9_1
  obtain ⟨kq, x45_5, rfl, HA, HJ5, BK514, BK517, HB⟩ := hcut
  cases kq with
  | zero => exact absurd HA.out (by simp [lockgatelaw04_SpanExact.j0])
  | succ kj5 =>
   have H := HA.out
   clear HA
   simp only [lockgatelaw04_SpanExact.j0] at H
   by_cases c43 : x45_5 = true
   ·subst c43
    have H1 : (some false) = some r := by rw [if_pos rfl] at H; exact H
    clear H
    have H := H1
    clear H1
    exact absurd ((Option.some.inj H).trans HRT.out) (by decide)
   ·replace c43 := Bool.eq_false_iff.mpr c43
    subst c43
    have H1 : ((span_UAnd.f t512 t513 t515 t516).bind fun bt530 => ((span_UOf.f (Go.bits .and .u64 a0 a1)).bind fun bt532 => (if (!(bt530.1 == bt532.1) || (!(bt530.2 == bt532.2))) = true then (lockgatelaw04_SpanExact.j1 kj5 a0 a1 true t512 t513 t515 t516) else ((span_UOr.f kj5 t512 t513 t515 t516).bind fun bt534 => ((span_UOf.f (Go.bits .or .u64 a0 a1)).bind fun bt536 => (if (!(bt534.1 == bt536.1) || (!(bt534.2 == bt536.2))) = true then (lockgatelaw04_SpanExact.j1 kj5 a0 a1 true t512 t513 t515 t516) else ((span_URsh.f t512 t513 a2).bind fun bt538 => (if 0 ≤ (IntKind.u64.wrap (Go.bits .and .i64 a2 63)) then ((span_UOf.f (shr .u64 a0 (IntKind.u64.wrap (Go.bits .and .i64 a2 63)))).bind fun bt540 => (if (!(bt538.1 == bt540.1) || (!(bt538.2 == bt540.2))) = true then (lockgatelaw04_SpanExact.j1 kj5 a0 a1 true t512 t513 t515 t516) else ((span_UCut.f t512 t513).bind fun bt542 => ((span_UOf.f (Int.tmod a0 4294967296)).bind fun bt544 => (if (!(bt542.1 == bt544.1) || (!(bt542.2 == bt544.2))) = true then (lockgatelaw04_SpanExact.j1 kj5 a0 a1 true t512 t513 t515 t516) else ((span_ToS.f t512 t513).bind fun bt546 => ((span_SOf.f a0).bind fun bt548 => (if (!(bt546.1 == bt548.1) || (!(bt546.2 == bt548.2))) = true then (lockgatelaw04_SpanExact.j1 kj5 a0 a1 true t512 t513 t515 t516) else ((span_SOf.f a0).bind fun bt550 => ((span_ToU.f bt550.1 bt550.2).bind fun bt552 => (if (!(bt552.1 == t512) || (!(bt552.2 == t513))) = true then (lockgatelaw04_SpanExact.j1 kj5 a0 a1 true t512 t513 t515 t516) else ((span_ToT.f kj5 t512 t513).bind fun bt554 => (lockgatelaw04_SpanExact.j1 kj5 a0 a1 (!(bt554.1 == a0) || (!(bt554.2 == 0))) t512 t513 t515 t516))))))))))))) else (none))))))))) = some r := by rw [if_neg (show ¬ (false = true) by decide)] at H; exact H
    clear H
    have H := H1
    clear H1
    have HC44 := Aside0.mk H
    clear H
    go_upto_region 6 with (fail)
    go_cut [104] (fun v104 wc => ∃ (kq : Nat) (x104_43 : Bool), v104 = .bool x104_43 ∧ Aside0 (lockgatelaw04_SpanExact.j1 kq a0 a1 x104_43 t512 t513 t515 t516 = some r) ∧ Aside0 (kq ≤ kj5) ∧ Aside0 (wc.heap[gb514]? = some (.cells #[.int .u64 t512, .int .u64 t513] 26 (0, 0))) ∧ Aside0 (wc.heap[gb517]? = some (.cells #[.int .u64 t515, .int .u64 t516] 26 (0, 0))) ∧ Aside0 (Below w.heap.size w wc))
    case first =>
     have H := HC44.out
     clear HC44
     replace H := Option.bind_eq_some_iff.mp H
     obtain ⟨⟨t530, t531⟩, A450, H⟩ := H
     replace H : ((span_UOf.f (Go.bits .and .u64 a0 a1)).bind fun bt532 => (if (!(t530 == bt532.1) || (!(t531 == bt532.2))) = true then (lockgatelaw04_SpanExact.j1 kj5 a0 a1 true t512 t513 t515 t516) else ((span_UOr.f kj5 t512 t513 t515 t516).bind fun bt534 => ((span_UOf.f (Go.bits .or .u64 a0 a1)).bind fun bt536 => (if (!(bt534.1 == bt536.1) || (!(bt534.2 == bt536.2))) = true then (lockgatelaw04_SpanExact.j1 kj5 a0 a1 true t512 t513 t515 t516) else ((span_URsh.f t512 t513 a2).bind fun bt538 => (if 0 ≤ (IntKind.u64.wrap (Go.bits .and .i64 a2 63)) then ((span_UOf.f (shr .u64 a0 (IntKind.u64.wrap (Go.bits .and .i64 a2 63)))).bind fun bt540 => (if (!(bt538.1 == bt540.1) || (!(bt538.2 == bt540.2))) = true then (lockgatelaw04_SpanExact.j1 kj5 a0 a1 true t512 t513 t515 t516) else ((span_UCut.f t512 t513).bind fun bt542 => ((span_UOf.f (Int.tmod a0 4294967296)).bind fun bt544 => (if (!(bt542.1 == bt544.1) || (!(bt542.2 == bt544.2))) = true then (lockgatelaw04_SpanExact.j1 kj5 a0 a1 true t512 t513 t515 t516) else ((span_ToS.f t512 t513).bind fun bt546 => ((span_SOf.f a0).bind fun bt548 => (if (!(bt546.1 == bt548.1) || (!(bt546.2 == bt548.2))) = true then (lockgatelaw04_SpanExact.j1 kj5 a0 a1 true t512 t513 t515 t516) else ((span_SOf.f a0).bind fun bt550 => ((span_ToU.f bt550.1 bt550.2).bind fun bt552 => (if (!(bt552.1 == t512) || (!(bt552.2 == t513))) = true then (lockgatelaw04_SpanExact.j1 kj5 a0 a1 true t512 t513 t515 t516) else ((span_ToT.f kj5 t512 t513).bind fun bt554 => (lockgatelaw04_SpanExact.j1 kj5 a0 a1 (!(bt554.1 == a0) || (!(bt554.2 == 0))) t512 t513 t515 t516))))))))))))) else (none)))))))) = some r := H
     have A45 := Aside0.mk A450
     clear A450
     replace H := Option.bind_eq_some_iff.mp H
     obtain ⟨⟨t532, t533⟩, A460, H⟩ := H
     replace H : (if (!(t530 == t532) || (!(t531 == t533))) = true then (lockgatelaw04_SpanExact.j1 kj5 a0 a1 true t512 t513 t515 t516) else ((span_UOr.f kj5 t512 t513 t515 t516).bind fun bt534 => ((span_UOf.f (Go.bits .or .u64 a0 a1)).bind fun bt536 => (if (!(bt534.1 == bt536.1) || (!(bt534.2 == bt536.2))) = true then (lockgatelaw04_SpanExact.j1 kj5 a0 a1 true t512 t513 t515 t516) else ((span_URsh.f t512 t513 a2).bind fun bt538 => (if 0 ≤ (IntKind.u64.wrap (Go.bits .and .i64 a2 63)) then ((span_UOf.f (shr .u64 a0 (IntKind.u64.wrap (Go.bits .and .i64 a2 63)))).bind fun bt540 => (if (!(bt538.1 == bt540.1) || (!(bt538.2 == bt540.2))) = true then (lockgatelaw04_SpanExact.j1 kj5 a0 a1 true t512 t513 t515 t516) else ((span_UCut.f t512 t513).bind fun bt542 => ((span_UOf.f (Int.tmod a0 4294967296)).bind fun bt544 => (if (!(bt542.1 == bt544.1) || (!(bt542.2 == bt544.2))) = true then (lockgatelaw04_SpanExact.j1 kj5 a0 a1 true t512 t513 t515 t516) else ((span_ToS.f t512 t513).bind fun bt546 => ((span_SOf.f a0).bind fun bt548 => (if (!(bt546.1 == bt548.1) || (!(bt546.2 == bt548.2))) = true then (lockgatelaw04_SpanExact.j1 kj5 a0 a1 true t512 t513 t515 t516) else ((span_SOf.f a0).bind fun bt550 => ((span_ToU.f bt550.1 bt550.2).bind fun bt552 => (if (!(bt552.1 == t512) || (!(bt552.2 == t513))) = true then (lockgatelaw04_SpanExact.j1 kj5 a0 a1 true t512 t513 t515 t516) else ((span_ToT.f kj5 t512 t513).bind fun bt554 => (lockgatelaw04_SpanExact.j1 kj5 a0 a1 (!(bt554.1 == a0) || (!(bt554.2 == 0))) t512 t513 t515 t516))))))))))))) else (none))))))) = some r := H
     have A46 := Aside0.mk A460
     clear A460
     by_cases c47 : (!(t530 == t532) || (!(t531 == t533))) = true
     ·rw [if_pos c47] at H
      have c47b0 : (!(t530 == t532) || (!(t531 == t533))) = true := c47
      clear c47
      (first | rw [c47b0] | (simp only [i64_w, i32_w]; rw [c47b0]) | skip)
      exfalso
      cases kj5 with
      | zero => rw [lockgatelaw04_SpanExact.j1] at H; exact nomatch H
      | succ q_ => rw [lockgatelaw04_SpanExact.j1, if_pos rfl] at H; exact absurd ((Option.some.inj H).trans HRT.out) (by decide)
     ·rw [if_neg c47] at H
      have c47b0 : (!(t530 == t532) || (!(t531 == t533))) = false := by simpa using c47
      clear c47
      (first | rw [c47b0] | (simp only [i64_w, i32_w]; rw [c47b0]) | skip)
      replace H := Option.bind_eq_some_iff.mp H
      obtain ⟨⟨t534, t535⟩, A480, H⟩ := H
      replace H : ((span_UOf.f (Go.bits .or .u64 a0 a1)).bind fun bt536 => (if (!(t534 == bt536.1) || (!(t535 == bt536.2))) = true then (lockgatelaw04_SpanExact.j1 kj5 a0 a1 true t512 t513 t515 t516) else ((span_URsh.f t512 t513 a2).bind fun bt538 => (if 0 ≤ (IntKind.u64.wrap (Go.bits .and .i64 a2 63)) then ((span_UOf.f (shr .u64 a0 (IntKind.u64.wrap (Go.bits .and .i64 a2 63)))).bind fun bt540 => (if (!(bt538.1 == bt540.1) || (!(bt538.2 == bt540.2))) = true then (lockgatelaw04_SpanExact.j1 kj5 a0 a1 true t512 t513 t515 t516) else ((span_UCut.f t512 t513).bind fun bt542 => ((span_UOf.f (Int.tmod a0 4294967296)).bind fun bt544 => (if (!(bt542.1 == bt544.1) || (!(bt542.2 == bt544.2))) = true then (lockgatelaw04_SpanExact.j1 kj5 a0 a1 true t512 t513 t515 t516) else ((span_ToS.f t512 t513).bind fun bt546 => ((span_SOf.f a0).bind fun bt548 => (if (!(bt546.1 == bt548.1) || (!(bt546.2 == bt548.2))) = true then (lockgatelaw04_SpanExact.j1 kj5 a0 a1 true t512 t513 t515 t516) else ((span_SOf.f a0).bind fun bt550 => ((span_ToU.f bt550.1 bt550.2).bind fun bt552 => (if (!(bt552.1 == t512) || (!(bt552.2 == t513))) = true then (lockgatelaw04_SpanExact.j1 kj5 a0 a1 true t512 t513 t515 t516) else ((span_ToT.f kj5 t512 t513).bind fun bt554 => (lockgatelaw04_SpanExact.j1 kj5 a0 a1 (!(bt554.1 == a0) || (!(bt554.2 == 0))) t512 t513 t515 t516))))))))))))) else (none))))) = some r := H
      have A48 := Aside0.mk A480
      clear A480
      replace H := Option.bind_eq_some_iff.mp H
      obtain ⟨⟨t536, t537⟩, A490, H⟩ := H
      replace H : (if (!(t534 == t536) || (!(t535 == t537))) = true then (lockgatelaw04_SpanExact.j1 kj5 a0 a1 true t512 t513 t515 t516) else ((span_URsh.f t512 t513 a2).bind fun bt538 => (if 0 ≤ (IntKind.u64.wrap (Go.bits .and .i64 a2 63)) then ((span_UOf.f (shr .u64 a0 (IntKind.u64.wrap (Go.bits .and .i64 a2 63)))).bind fun bt540 => (if (!(bt538.1 == bt540.1) || (!(bt538.2 == bt540.2))) = true then (lockgatelaw04_SpanExact.j1 kj5 a0 a1 true t512 t513 t515 t516) else ((span_UCut.f t512 t513).bind fun bt542 => ((span_UOf.f (Int.tmod a0 4294967296)).bind fun bt544 => (if (!(bt542.1 == bt544.1) || (!(bt542.2 == bt544.2))) = true then (lockgatelaw04_SpanExact.j1 kj5 a0 a1 true t512 t513 t515 t516) else ((span_ToS.f t512 t513).bind fun bt546 => ((span_SOf.f a0).bind fun bt548 => (if (!(bt546.1 == bt548.1) || (!(bt546.2 == bt548.2))) = true then (lockgatelaw04_SpanExact.j1 kj5 a0 a1 true t512 t513 t515 t516) else ((span_SOf.f a0).bind fun bt550 => ((span_ToU.f bt550.1 bt550.2).bind fun bt552 => (if (!(bt552.1 == t512) || (!(bt552.2 == t513))) = true then (lockgatelaw04_SpanExact.j1 kj5 a0 a1 true t512 t513 t515 t516) else ((span_ToT.f kj5 t512 t513).bind fun bt554 => (lockgatelaw04_SpanExact.j1 kj5 a0 a1 (!(bt554.1 == a0) || (!(bt554.2 == 0))) t512 t513 t515 t516))))))))))))) else (none)))) = some r := H
      have A49 := Aside0.mk A490
      clear A490
      by_cases c50 : (!(t534 == t536) || (!(t535 == t537))) = true
      ·rw [if_pos c50] at H
       have c50b0 : (!(t534 == t536) || (!(t535 == t537))) = true := c50
       clear c50
       exfalso
       cases kj5 with
       | zero => rw [lockgatelaw04_SpanExact.j1] at H; exact nomatch H
       | succ q_ => rw [lockgatelaw04_SpanExact.j1, if_pos rfl] at H; exact absurd ((Option.some.inj H).trans HRT.out) (by decide)
      ·rw [if_neg c50] at H
       have c50b0 : (!(t534 == t536) || (!(t535 == t537))) = false := by simpa using c50
       clear c50
       replace H := Option.bind_eq_some_iff.mp H
       obtain ⟨⟨t538, t539⟩, A510, H⟩ := H
       replace H : (if 0 ≤ (IntKind.u64.wrap (Go.bits .and .i64 a2 63)) then ((span_UOf.f (shr .u64 a0 (IntKind.u64.wrap (Go.bits .and .i64 a2 63)))).bind fun bt540 => (if (!(t538 == bt540.1) || (!(t539 == bt540.2))) = true then (lockgatelaw04_SpanExact.j1 kj5 a0 a1 true t512 t513 t515 t516) else ((span_UCut.f t512 t513).bind fun bt542 => ((span_UOf.f (Int.tmod a0 4294967296)).bind fun bt544 => (if (!(bt542.1 == bt544.1) || (!(bt542.2 == bt544.2))) = true then (lockgatelaw04_SpanExact.j1 kj5 a0 a1 true t512 t513 t515 t516) else ((span_ToS.f t512 t513).bind fun bt546 => ((span_SOf.f a0).bind fun bt548 => (if (!(bt546.1 == bt548.1) || (!(bt546.2 == bt548.2))) = true then (lockgatelaw04_SpanExact.j1 kj5 a0 a1 true t512 t513 t515 t516) else ((span_SOf.f a0).bind fun bt550 => ((span_ToU.f bt550.1 bt550.2).bind fun bt552 => (if (!(bt552.1 == t512) || (!(bt552.2 == t513))) = true then (lockgatelaw04_SpanExact.j1 kj5 a0 a1 true t512 t513 t515 t516) else ((span_ToT.f kj5 t512 t513).bind fun bt554 => (lockgatelaw04_SpanExact.j1 kj5 a0 a1 (!(bt554.1 == a0) || (!(bt554.2 == 0))) t512 t513 t515 t516))))))))))))) else (none)) = some r := H
       have A51 := Aside0.mk A510
       clear A510
       obtain ⟨ji52, hji52⟩ : ∃ j_ : Int, (IntKind.u64.wrap (Go.bits .and .i64 a2 63)) = j_ := ⟨_, rfl⟩
       replace H : (if 0 ≤ (ji52) then ((span_UOf.f (shr .u64 a0 (ji52))).bind fun bt540 => (if (!(t538 == bt540.1) || (!(t539 == bt540.2))) = true then (lockgatelaw04_SpanExact.j1 kj5 a0 a1 true t512 t513 t515 t516) else ((span_UCut.f t512 t513).bind fun bt542 => ((span_UOf.f (Int.tmod a0 4294967296)).bind fun bt544 => (if (!(bt542.1 == bt544.1) || (!(bt542.2 == bt544.2))) = true then (lockgatelaw04_SpanExact.j1 kj5 a0 a1 true t512 t513 t515 t516) else ((span_ToS.f t512 t513).bind fun bt546 => ((span_SOf.f a0).bind fun bt548 => (if (!(bt546.1 == bt548.1) || (!(bt546.2 == bt548.2))) = true then (lockgatelaw04_SpanExact.j1 kj5 a0 a1 true t512 t513 t515 t516) else ((span_SOf.f a0).bind fun bt550 => ((span_ToU.f bt550.1 bt550.2).bind fun bt552 => (if (!(bt552.1 == t512) || (!(bt552.2 == t513))) = true then (lockgatelaw04_SpanExact.j1 kj5 a0 a1 true t512 t513 t515 t516) else ((span_ToT.f kj5 t512 t513).bind fun bt554 => (lockgatelaw04_SpanExact.j1 kj5 a0 a1 (!(bt554.1 == a0) || (!(bt554.2 == 0))) t512 t513 t515 t516))))))))))))) else (none)) = some r := by first | (rw [hji52] at H; exact H) | (simp only [hji52] at H ⊢; exact H)
       (try rw [hji52] at A45)
       (try rw [hji52] at A46)
       (try rw [hji52] at A48)
       (try rw [hji52] at A49)
       (try rw [hji52] at A51)
       by_cases c53 : 0 ≤ (ji52)
       ·rw [if_pos c53] at H
        have c53b0 := eq_true c53
        have c53b1 : decide (0 ≤ (ji52)) = true := decide_eq_true c53
        clear c53
        obtain ⟨ji54, hji54⟩ : ∃ j_ : Int, (shr .u64 a0 (ji52)) = j_ := ⟨_, rfl⟩
        replace H : ((span_UOf.f (ji54)).bind fun bt540 => (if (!(t538 == bt540.1) || (!(t539 == bt540.2))) = true then (lockgatelaw04_SpanExact.j1 kj5 a0 a1 true t512 t513 t515 t516) else ((span_UCut.f t512 t513).bind fun bt542 => ((span_UOf.f (Int.tmod a0 4294967296)).bind fun bt544 => (if (!(bt542.1 == bt544.1) || (!(bt542.2 == bt544.2))) = true then (lockgatelaw04_SpanExact.j1 kj5 a0 a1 true t512 t513 t515 t516) else ((span_ToS.f t512 t513).bind fun bt546 => ((span_SOf.f a0).bind fun bt548 => (if (!(bt546.1 == bt548.1) || (!(bt546.2 == bt548.2))) = true then (lockgatelaw04_SpanExact.j1 kj5 a0 a1 true t512 t513 t515 t516) else ((span_SOf.f a0).bind fun bt550 => ((span_ToU.f bt550.1 bt550.2).bind fun bt552 => (if (!(bt552.1 == t512) || (!(bt552.2 == t513))) = true then (lockgatelaw04_SpanExact.j1 kj5 a0 a1 true t512 t513 t515 t516) else ((span_ToT.f kj5 t512 t513).bind fun bt554 => (lockgatelaw04_SpanExact.j1 kj5 a0 a1 (!(bt554.1 == a0) || (!(bt554.2 == 0))) t512 t513 t515 t516))))))))))))) = some r := by first | (rw [hji54] at H; exact H) | (simp only [hji54] at H ⊢; exact H)
        (try rw [hji54] at A45)
        (try rw [hji54] at A46)
        (try rw [hji54] at A48)
        (try rw [hji54] at A49)
        (try rw [hji54] at A51)
        have hji54_ : (a0 / 2 ^ min (ji52).toNat 64) = ji54 := hji54
        have hji54z : (ji52) ≤ 64 → (a0 / 2 ^ (ji52).toNat) = ji54 := shr_small hji54
        replace H := Option.bind_eq_some_iff.mp H
        obtain ⟨⟨t540, t541⟩, A550, H⟩ := H
        replace H : (if (!(t538 == t540) || (!(t539 == t541))) = true then (lockgatelaw04_SpanExact.j1 kj5 a0 a1 true t512 t513 t515 t516) else ((span_UCut.f t512 t513).bind fun bt542 => ((span_UOf.f (Int.tmod a0 4294967296)).bind fun bt544 => (if (!(bt542.1 == bt544.1) || (!(bt542.2 == bt544.2))) = true then (lockgatelaw04_SpanExact.j1 kj5 a0 a1 true t512 t513 t515 t516) else ((span_ToS.f t512 t513).bind fun bt546 => ((span_SOf.f a0).bind fun bt548 => (if (!(bt546.1 == bt548.1) || (!(bt546.2 == bt548.2))) = true then (lockgatelaw04_SpanExact.j1 kj5 a0 a1 true t512 t513 t515 t516) else ((span_SOf.f a0).bind fun bt550 => ((span_ToU.f bt550.1 bt550.2).bind fun bt552 => (if (!(bt552.1 == t512) || (!(bt552.2 == t513))) = true then (lockgatelaw04_SpanExact.j1 kj5 a0 a1 true t512 t513 t515 t516) else ((span_ToT.f kj5 t512 t513).bind fun bt554 => (lockgatelaw04_SpanExact.j1 kj5 a0 a1 (!(bt554.1 == a0) || (!(bt554.2 == 0))) t512 t513 t515 t516)))))))))))) = some r := H
        have A55 := Aside0.mk A550
        clear A550
        by_cases c56 : (!(t538 == t540) || (!(t539 == t541))) = true
        ·rw [if_pos c56] at H
         have c56b0 : (!(t538 == t540) || (!(t539 == t541))) = true := c56
         clear c56
         exfalso
         cases kj5 with
         | zero => rw [lockgatelaw04_SpanExact.j1] at H; exact nomatch H
         | succ q_ => rw [lockgatelaw04_SpanExact.j1, if_pos rfl] at H; exact absurd ((Option.some.inj H).trans HRT.out) (by decide)
        ·rw [if_neg c56] at H
         have c56b0 : (!(t538 == t540) || (!(t539 == t541))) = false := by simpa using c56
         clear c56
         replace H := Option.bind_eq_some_iff.mp H
         obtain ⟨⟨t542, t543⟩, A570, H⟩ := H
         replace H : ((span_UOf.f (Int.tmod a0 4294967296)).bind fun bt544 => (if (!(t542 == bt544.1) || (!(t543 == bt544.2))) = true then (lockgatelaw04_SpanExact.j1 kj5 a0 a1 true t512 t513 t515 t516) else ((span_ToS.f t512 t513).bind fun bt546 => ((span_SOf.f a0).bind fun bt548 => (if (!(bt546.1 == bt548.1) || (!(bt546.2 == bt548.2))) = true then (lockgatelaw04_SpanExact.j1 kj5 a0 a1 true t512 t513 t515 t516) else ((span_SOf.f a0).bind fun bt550 => ((span_ToU.f bt550.1 bt550.2).bind fun bt552 => (if (!(bt552.1 == t512) || (!(bt552.2 == t513))) = true then (lockgatelaw04_SpanExact.j1 kj5 a0 a1 true t512 t513 t515 t516) else ((span_ToT.f kj5 t512 t513).bind fun bt554 => (lockgatelaw04_SpanExact.j1 kj5 a0 a1 (!(bt554.1 == a0) || (!(bt554.2 == 0))) t512 t513 t515 t516)))))))))) = some r := H
         have A57 := Aside0.mk A570
         clear A570
         replace H := Option.bind_eq_some_iff.mp H
         obtain ⟨⟨t544, t545⟩, A580, H⟩ := H
         replace H : (if (!(t542 == t544) || (!(t543 == t545))) = true then (lockgatelaw04_SpanExact.j1 kj5 a0 a1 true t512 t513 t515 t516) else ((span_ToS.f t512 t513).bind fun bt546 => ((span_SOf.f a0).bind fun bt548 => (if (!(bt546.1 == bt548.1) || (!(bt546.2 == bt548.2))) = true then (lockgatelaw04_SpanExact.j1 kj5 a0 a1 true t512 t513 t515 t516) else ((span_SOf.f a0).bind fun bt550 => ((span_ToU.f bt550.1 bt550.2).bind fun bt552 => (if (!(bt552.1 == t512) || (!(bt552.2 == t513))) = true then (lockgatelaw04_SpanExact.j1 kj5 a0 a1 true t512 t513 t515 t516) else ((span_ToT.f kj5 t512 t513).bind fun bt554 => (lockgatelaw04_SpanExact.j1 kj5 a0 a1 (!(bt554.1 == a0) || (!(bt554.2 == 0))) t512 t513 t515 t516))))))))) = some r := H
         have A58 := Aside0.mk A580
         clear A580
         by_cases c59 : (!(t542 == t544) || (!(t543 == t545))) = true
         ·rw [if_pos c59] at H
          have c59b0 : (!(t542 == t544) || (!(t543 == t545))) = true := c59
          clear c59
          exfalso
          cases kj5 with
          | zero => rw [lockgatelaw04_SpanExact.j1] at H; exact nomatch H
          | succ q_ => rw [lockgatelaw04_SpanExact.j1, if_pos rfl] at H; exact absurd ((Option.some.inj H).trans HRT.out) (by decide)
         ·rw [if_neg c59] at H
          have c59b0 : (!(t542 == t544) || (!(t543 == t545))) = false := by simpa using c59
          clear c59
          replace H := Option.bind_eq_some_iff.mp H
          obtain ⟨⟨t546, t547⟩, A600, H⟩ := H
          replace H : ((span_SOf.f a0).bind fun bt548 => (if (!(t546 == bt548.1) || (!(t547 == bt548.2))) = true then (lockgatelaw04_SpanExact.j1 kj5 a0 a1 true t512 t513 t515 t516) else ((span_SOf.f a0).bind fun bt550 => ((span_ToU.f bt550.1 bt550.2).bind fun bt552 => (if (!(bt552.1 == t512) || (!(bt552.2 == t513))) = true then (lockgatelaw04_SpanExact.j1 kj5 a0 a1 true t512 t513 t515 t516) else ((span_ToT.f kj5 t512 t513).bind fun bt554 => (lockgatelaw04_SpanExact.j1 kj5 a0 a1 (!(bt554.1 == a0) || (!(bt554.2 == 0))) t512 t513 t515 t516))))))) = some r := H
          have A60 := Aside0.mk A600
          clear A600
          replace H := Option.bind_eq_some_iff.mp H
          obtain ⟨⟨t548, t549⟩, A610, H⟩ := H
          replace H : (if (!(t546 == t548) || (!(t547 == t549))) = true then (lockgatelaw04_SpanExact.j1 kj5 a0 a1 true t512 t513 t515 t516) else ((span_SOf.f a0).bind fun bt550 => ((span_ToU.f bt550.1 bt550.2).bind fun bt552 => (if (!(bt552.1 == t512) || (!(bt552.2 == t513))) = true then (lockgatelaw04_SpanExact.j1 kj5 a0 a1 true t512 t513 t515 t516) else ((span_ToT.f kj5 t512 t513).bind fun bt554 => (lockgatelaw04_SpanExact.j1 kj5 a0 a1 (!(bt554.1 == a0) || (!(bt554.2 == 0))) t512 t513 t515 t516)))))) = some r := H
          have A61 := Aside0.mk A610
          clear A610
          by_cases c62 : (!(t546 == t548) || (!(t547 == t549))) = true
          ·rw [if_pos c62] at H
           have c62b0 : (!(t546 == t548) || (!(t547 == t549))) = true := c62
           clear c62
           exfalso
           cases kj5 with
           | zero => rw [lockgatelaw04_SpanExact.j1] at H; exact nomatch H
           | succ q_ => rw [lockgatelaw04_SpanExact.j1, if_pos rfl] at H; exact absurd ((Option.some.inj H).trans HRT.out) (by decide)
          ·rw [if_neg c62] at H
           have c62b0 : (!(t546 == t548) || (!(t547 == t549))) = false := by simpa using c62
           clear c62
           replace H := Option.bind_eq_some_iff.mp H
           obtain ⟨⟨t550, t551⟩, A630, H⟩ := H
           replace H : ((span_ToU.f t550 t551).bind fun bt552 => (if (!(bt552.1 == t512) || (!(bt552.2 == t513))) = true then (lockgatelaw04_SpanExact.j1 kj5 a0 a1 true t512 t513 t515 t516) else ((span_ToT.f kj5 t512 t513).bind fun bt554 => (lockgatelaw04_SpanExact.j1 kj5 a0 a1 (!(bt554.1 == a0) || (!(bt554.2 == 0))) t512 t513 t515 t516)))) = some r := H
           have A63 := Aside0.mk A630
           clear A630
           replace H := Option.bind_eq_some_iff.mp H
           obtain ⟨⟨t552, t553⟩, A640, H⟩ := H
           replace H : (if (!(t552 == t512) || (!(t553 == t513))) = true then (lockgatelaw04_SpanExact.j1 kj5 a0 a1 true t512 t513 t515 t516) else ((span_ToT.f kj5 t512 t513).bind fun bt554 => (lockgatelaw04_SpanExact.j1 kj5 a0 a1 (!(bt554.1 == a0) || (!(bt554.2 == 0))) t512 t513 t515 t516))) = some r := H
           have A64 := Aside0.mk A640
           clear A640
           by_cases c65 : (!(t552 == t512) || (!(t553 == t513))) = true
           ·rw [if_pos c65] at H
            have c65b0 : (!(t552 == t512) || (!(t553 == t513))) = true := c65
            clear c65
            exfalso
            cases kj5 with
            | zero => rw [lockgatelaw04_SpanExact.j1] at H; exact nomatch H
            | succ q_ => rw [lockgatelaw04_SpanExact.j1, if_pos rfl] at H; exact absurd ((Option.some.inj H).trans HRT.out) (by decide)
           ·rw [if_neg c65] at H
            have c65b0 : (!(t552 == t512) || (!(t553 == t513))) = false := by simpa using c65
            clear c65
            replace H := Option.bind_eq_some_iff.mp H
            obtain ⟨⟨t554, t555⟩, A660, H⟩ := H
            replace H : (lockgatelaw04_SpanExact.j1 kj5 a0 a1 (!(t554 == a0) || (!(t555 == 0))) t512 t513 t515 t516) = some r := H
            have A66 := Aside0.mk A660
            clear A660
            have H' := Aside0.mk H
            clear H
            try go_wp2
            replace BK514 := Aside0.mk (blk_drew BK514.out)
            replace BK517 := Aside0.mk (blk_drew BK517.out)
            replace HB := Aside0.mk (below_drew1 HB.out)
            refine start_ (n := 59) (S := fun w' => w'.cell? ⟨gb514, 0, none⟩ = some (.int .u64 t512) ∧ w'.cell? ⟨gb514, 1, none⟩ = some (.int .u64 t513) ∧ w'.cell? ⟨gb517, 0, none⟩ = some (.int .u64 t515) ∧ w'.cell? ⟨gb517, 1, none⟩ = some (.int .u64 t516)) (ds := []) #[n_,n_,n_,n_,n_,n_,n_,n_,n_,n_,n_,n_,n_,n_,n_,n_,n_,n_,n_,n_,n_,n_,n_,n_,n_,n_,n_,n_,n_,n_,n_,n_,n_,n_,n_,n_,n_,n_,n_,n_,n_,n_,n_,n_,n_,n_,n_,n_,n_,n_,n_,n_,n_,n_,n_,n_,n_,n_,n_] (by kernel_rfl) rfl rfl ⟨c0_ BK514, c1_ BK514, c0_ BK517, c1_ BK517⟩ (fun hHeld => ?_); refine with_tabW lockgatelaw04_SpanExact.tab6 lockgatelaw04_SpanExact.bits6 (fun HT_ HW_ => ?_)
            generalize wc.drew = w67 at BK514 BK517 HB hHeld ⊢
            refine pq_ 3 49 #[n_,n_,n_,y_,n_,n_,n_,n_,n_,n_,n_,n_,n_,n_,n_,n_,n_,n_,n_,n_,n_,n_,n_,n_,n_,n_,n_,n_,n_,n_,n_,n_,n_,n_,n_,n_,n_,n_,n_,n_,n_,n_,n_,n_,n_,n_,n_,n_,n_,n_,n_,n_,n_,n_,n_,n_,n_,n_,n_] ?_
            refine pq_ 4 50 #[n_,n_,n_,y_,y_,n_,n_,n_,n_,n_,n_,n_,n_,n_,n_,n_,n_,n_,n_,n_,n_,n_,n_,n_,n_,n_,n_,n_,n_,n_,n_,n_,n_,n_,n_,n_,n_,n_,n_,n_,n_,n_,n_,n_,n_,n_,n_,n_,n_,n_,n_,n_,n_,n_,n_,n_,n_,n_,n_] ?_
            refine pq_ 5 51 #[n_,n_,n_,y_,y_,y_,n_,n_,n_,n_,n_,n_,n_,n_,n_,n_,n_,n_,n_,n_,n_,n_,n_,n_,n_,n_,n_,n_,n_,n_,n_,n_,n_,n_,n_,n_,n_,n_,n_,n_,n_,n_,n_,n_,n_,n_,n_,n_,n_,n_,n_,n_,n_,n_,n_,n_,n_,n_,n_] ?_
            refine tq1_ 0 46 #[y_,n_,n_,y_,y_,y_,n_,n_,n_,n_,n_,n_,n_,n_,n_,n_,n_,n_,n_,n_,n_,n_,n_,n_,n_,n_,n_,n_,n_,n_,n_,n_,n_,n_,n_,n_,n_,n_,n_,n_,n_,n_,n_,n_,n_,n_,n_,n_,n_,n_,n_,n_,n_,n_,n_,n_,n_,n_,n_] hHeld ?_
            refine tq1_ 1 47 #[y_,y_,n_,y_,y_,y_,n_,n_,n_,n_,n_,n_,n_,n_,n_,n_,n_,n_,n_,n_,n_,n_,n_,n_,n_,n_,n_,n_,n_,n_,n_,n_,n_,n_,n_,n_,n_,n_,n_,n_,n_,n_,n_,n_,n_,n_,n_,n_,n_,n_,n_,n_,n_,n_,n_,n_,n_,n_,n_] hHeld ?_
            refine one_ (i := 2) (N := some 48) #[y_,y_,y_,y_,y_,y_,n_,n_,n_,n_,n_,n_,n_,n_,n_,n_,n_,n_,n_,n_,n_,n_,n_,n_,n_,n_,n_,n_,n_,n_,n_,n_,n_,n_,n_,n_,n_,n_,n_,n_,n_,n_,n_,n_,n_,n_,n_,n_,n_,n_,n_,n_,n_,n_,n_,n_,n_,n_,n_] rfl rfl (one_of HT_.out (by kernel_rfl)) (by decide) (fun K hK => ?_)
            refine goes_ Try.func45 (by kernel_rfl) rfl #[.agg #[.int .u64 t512, .int .u64 t513], .agg #[.int .u64 t515, .int .u64 t516]] (by rfl) rfl rfl (by (try simp only [List.map_toArray, List.map_cons, List.map_nil]); first | done | rfl) ?_
            with_reducible refine (span_UAnd.calls t512 t513 t515 t516 t530 t531 _ A45.out).mono ?_
            rintro e w68 ⟨rfl, hb⟩
            refine ⟨_, rfl, ?_⟩
            replace BK514 := bb_ hb BK514
            replace BK517 := bb_ hb BK517
            replace HB := bl_ hb
            try clear hb
            refine hK.out _ _ ⟨c0_ BK514, c1_ BK514, c0_ BK517, c1_ BK517⟩ (fun hHeld => ?_)
            clear hK K
            refine norm_ (a' := ?_) ?_ ?_
            rotate_left
            ·show Act.put _ (some 48) _ = _
             simp only [Act.put, s1_, s2_, s3_, i64_w, i32_w]
             rfl
            refine one_ (i := 6) (N := some 52) #[y_,y_,y_,y_,y_,y_,y_,n_,n_,n_,n_,n_,n_,n_,n_,n_,n_,n_,n_,n_,n_,n_,n_,n_,n_,n_,n_,n_,n_,n_,n_,n_,n_,n_,n_,n_,n_,n_,n_,n_,n_,n_,n_,n_,n_,n_,n_,n_,n_,n_,n_,n_,n_,n_,n_,n_,n_,n_,n_] rfl rfl (one_of HT_.out (by kernel_rfl)) (by decide) (fun K hK => ?_)
            refine goes_ Try.func42 (by kernel_rfl) rfl #[.int .u64 (Go.bits .and .u64 a0 a1)] (by rfl) rfl rfl (by (try simp only [List.map_toArray, List.map_cons, List.map_nil]); first | done | rfl) ?_
            with_reducible refine (span_UOf.calls (Go.bits .and .u64 a0 a1) t532 t533 _ A46.out).mono ?_
            rintro e w69 ⟨rfl, hb⟩
            refine ⟨_, rfl, ?_⟩
            replace BK514 := bb_ hb BK514
            replace BK517 := bb_ hb BK517
            replace HB := bl_ hb
            try clear hb
            refine hK.out _ _ ⟨c0_ BK514, c1_ BK514, c0_ BK517, c1_ BK517⟩ (fun hHeld => ?_)
            clear hK K
            refine norm_ (a' := ?_) ?_ ?_
            rotate_left
            ·show Act.put _ (some 52) _ = _
             simp only [Act.put, s1_, s2_, s3_, i64_w, i32_w]
             rfl
            refine pq_ 7 53 #[y_,y_,y_,y_,y_,y_,y_,y_,n_,n_,n_,n_,n_,n_,n_,n_,n_,n_,n_,n_,n_,n_,n_,n_,n_,n_,n_,n_,n_,n_,n_,n_,n_,n_,n_,n_,n_,n_,n_,n_,n_,n_,n_,n_,n_,n_,n_,n_,n_,n_,n_,n_,n_,n_,n_,n_,n_,n_,n_] ?_
            refine pq_ 8 54 #[y_,y_,y_,y_,y_,y_,y_,y_,y_,n_,n_,n_,n_,n_,n_,n_,n_,n_,n_,n_,n_,n_,n_,n_,n_,n_,n_,n_,n_,n_,n_,n_,n_,n_,n_,n_,n_,n_,n_,n_,n_,n_,n_,n_,n_,n_,n_,n_,n_,n_,n_,n_,n_,n_,n_,n_,n_,n_,n_] ?_
            refine pq_ 12 58 #[y_,y_,y_,y_,y_,y_,y_,y_,y_,n_,n_,n_,y_,n_,n_,n_,n_,n_,n_,n_,n_,n_,n_,n_,n_,n_,n_,n_,n_,n_,n_,n_,n_,n_,n_,n_,n_,n_,n_,n_,n_,n_,n_,n_,n_,n_,n_,n_,n_,n_,n_,n_,n_,n_,n_,n_,n_,n_,n_] ?_
            refine pq_ 13 59 #[y_,y_,y_,y_,y_,y_,y_,y_,y_,n_,n_,n_,y_,y_,n_,n_,n_,n_,n_,n_,n_,n_,n_,n_,n_,n_,n_,n_,n_,n_,n_,n_,n_,n_,n_,n_,n_,n_,n_,n_,n_,n_,n_,n_,n_,n_,n_,n_,n_,n_,n_,n_,n_,n_,n_,n_,n_,n_,n_] ?_
            refine pq_ 14 60 #[y_,y_,y_,y_,y_,y_,y_,y_,y_,n_,n_,n_,y_,y_,y_,n_,n_,n_,n_,n_,n_,n_,n_,n_,n_,n_,n_,n_,n_,n_,n_,n_,n_,n_,n_,n_,n_,n_,n_,n_,n_,n_,n_,n_,n_,n_,n_,n_,n_,n_,n_,n_,n_,n_,n_,n_,n_,n_,n_] ?_
            refine tq1_ 9 55 #[y_,y_,y_,y_,y_,y_,y_,y_,y_,y_,n_,n_,y_,y_,y_,n_,n_,n_,n_,n_,n_,n_,n_,n_,n_,n_,n_,n_,n_,n_,n_,n_,n_,n_,n_,n_,n_,n_,n_,n_,n_,n_,n_,n_,n_,n_,n_,n_,n_,n_,n_,n_,n_,n_,n_,n_,n_,n_,n_] hHeld ?_
            refine tq1_ 10 56 #[y_,y_,y_,y_,y_,y_,y_,y_,y_,y_,y_,n_,y_,y_,y_,n_,n_,n_,n_,n_,n_,n_,n_,n_,n_,n_,n_,n_,n_,n_,n_,n_,n_,n_,n_,n_,n_,n_,n_,n_,n_,n_,n_,n_,n_,n_,n_,n_,n_,n_,n_,n_,n_,n_,n_,n_,n_,n_,n_] hHeld ?_
            refine one_ (i := 11) (N := some 57) #[y_,y_,y_,y_,y_,y_,y_,y_,y_,y_,y_,y_,y_,y_,y_,n_,n_,n_,n_,n_,n_,n_,n_,n_,n_,n_,n_,n_,n_,n_,n_,n_,n_,n_,n_,n_,n_,n_,n_,n_,n_,n_,n_,n_,n_,n_,n_,n_,n_,n_,n_,n_,n_,n_,n_,n_,n_,n_,n_] rfl rfl (one_of HT_.out (by kernel_rfl)) (by decide) (fun K hK => ?_)
            refine goes_ Try.func46 (by kernel_rfl) rfl #[.agg #[.int .u64 t512, .int .u64 t513], .agg #[.int .u64 t515, .int .u64 t516]] (by rfl) rfl rfl (by (try simp only [List.map_toArray, List.map_cons, List.map_nil]); first | done | rfl) ?_
            with_reducible refine (span_UOr.calls kj5 t512 t513 t515 t516 t534 t535 _ A48.out).mono ?_
            rintro e w70 ⟨rfl, hb⟩
            refine ⟨_, rfl, ?_⟩
            replace BK514 := bb_ hb BK514
            replace BK517 := bb_ hb BK517
            replace HB := bl_ hb
            try clear hb
            refine hK.out _ _ ⟨c0_ BK514, c1_ BK514, c0_ BK517, c1_ BK517⟩ (fun hHeld => ?_)
            clear hK K
            refine norm_ (a' := ?_) ?_ ?_
            rotate_left
            ·show Act.put _ (some 57) _ = _
             simp only [Act.put, s1_, s2_, s3_, i64_w, i32_w]
             rfl
            refine one_ (i := 15) (N := some 61) #[y_,y_,y_,y_,y_,y_,y_,y_,y_,y_,y_,y_,y_,y_,y_,y_,n_,n_,n_,n_,n_,n_,n_,n_,n_,n_,n_,n_,n_,n_,n_,n_,n_,n_,n_,n_,n_,n_,n_,n_,n_,n_,n_,n_,n_,n_,n_,n_,n_,n_,n_,n_,n_,n_,n_,n_,n_,n_,n_] rfl rfl (one_of HT_.out (by kernel_rfl)) (by decide) (fun K hK => ?_)
            refine goes_ Try.func42 (by kernel_rfl) rfl #[.int .u64 (Go.bits .or .u64 a0 a1)] (by rfl) rfl rfl (by (try simp only [List.map_toArray, List.map_cons, List.map_nil]); first | done | rfl) ?_
            with_reducible refine (span_UOf.calls (Go.bits .or .u64 a0 a1) t536 t537 _ A49.out).mono ?_
            rintro e w71 ⟨rfl, hb⟩
            refine ⟨_, rfl, ?_⟩
            replace BK514 := bb_ hb BK514
            replace BK517 := bb_ hb BK517
            replace HB := bl_ hb
            try clear hb
            refine hK.out _ _ ⟨c0_ BK514, c1_ BK514, c0_ BK517, c1_ BK517⟩ (fun hHeld => ?_)
            clear hK K
            refine norm_ (a' := ?_) ?_ ?_
            rotate_left
            ·show Act.put _ (some 61) _ = _
             simp only [Act.put, s1_, s2_, s3_, i64_w, i32_w]
             rfl
            refine pq_ 16 62 #[y_,y_,y_,y_,y_,y_,y_,y_,y_,y_,y_,y_,y_,y_,y_,y_,y_,n_,n_,n_,n_,n_,n_,n_,n_,n_,n_,n_,n_,n_,n_,n_,n_,n_,n_,n_,n_,n_,n_,n_,n_,n_,n_,n_,n_,n_,n_,n_,n_,n_,n_,n_,n_,n_,n_,n_,n_,n_,n_] ?_
            refine pq_ 17 63 #[y_,y_,y_,y_,y_,y_,y_,y_,y_,y_,y_,y_,y_,y_,y_,y_,y_,y_,n_,n_,n_,n_,n_,n_,n_,n_,n_,n_,n_,n_,n_,n_,n_,n_,n_,n_,n_,n_,n_,n_,n_,n_,n_,n_,n_,n_,n_,n_,n_,n_,n_,n_,n_,n_,n_,n_,n_,n_,n_] ?_
            refine pq_ 18 64 #[y_,y_,y_,y_,y_,y_,y_,y_,y_,y_,y_,y_,y_,y_,y_,y_,y_,y_,y_,n_,n_,n_,n_,n_,n_,n_,n_,n_,n_,n_,n_,n_,n_,n_,n_,n_,n_,n_,n_,n_,n_,n_,n_,n_,n_,n_,n_,n_,n_,n_,n_,n_,n_,n_,n_,n_,n_,n_,n_] ?_
            refine pq_ 20 66 #[y_,y_,y_,y_,y_,y_,y_,y_,y_,y_,y_,y_,y_,y_,y_,y_,y_,y_,y_,n_,y_,n_,n_,n_,n_,n_,n_,n_,n_,n_,n_,n_,n_,n_,n_,n_,n_,n_,n_,n_,n_,n_,n_,n_,n_,n_,n_,n_,n_,n_,n_,n_,n_,n_,n_,n_,n_,n_,n_] ?_
            refine pq_ 22 68 #[y_,y_,y_,y_,y_,y_,y_,y_,y_,y_,y_,y_,y_,y_,y_,y_,y_,y_,y_,n_,y_,n_,y_,n_,n_,n_,n_,n_,n_,n_,n_,n_,n_,n_,n_,n_,n_,n_,n_,n_,n_,n_,n_,n_,n_,n_,n_,n_,n_,n_,n_,n_,n_,n_,n_,n_,n_,n_,n_] ?_
            refine pq_ 23 69 #[y_,y_,y_,y_,y_,y_,y_,y_,y_,y_,y_,y_,y_,y_,y_,y_,y_,y_,y_,n_,y_,n_,y_,y_,n_,n_,n_,n_,n_,n_,n_,n_,n_,n_,n_,n_,n_,n_,n_,n_,n_,n_,n_,n_,n_,n_,n_,n_,n_,n_,n_,n_,n_,n_,n_,n_,n_,n_,n_] ?_
            refine pq_ 24 70 #[y_,y_,y_,y_,y_,y_,y_,y_,y_,y_,y_,y_,y_,y_,y_,y_,y_,y_,y_,n_,y_,n_,y_,y_,y_,n_,n_,n_,n_,n_,n_,n_,n_,n_,n_,n_,n_,n_,n_,n_,n_,n_,n_,n_,n_,n_,n_,n_,n_,n_,n_,n_,n_,n_,n_,n_,n_,n_,n_] ?_
            refine pq_ 25 71 #[y_,y_,y_,y_,y_,y_,y_,y_,y_,y_,y_,y_,y_,y_,y_,y_,y_,y_,y_,n_,y_,n_,y_,y_,y_,y_,n_,n_,n_,n_,n_,n_,n_,n_,n_,n_,n_,n_,n_,n_,n_,n_,n_,n_,n_,n_,n_,n_,n_,n_,n_,n_,n_,n_,n_,n_,n_,n_,n_] ?_
            refine pq_ 26 72 #[y_,y_,y_,y_,y_,y_,y_,y_,y_,y_,y_,y_,y_,y_,y_,y_,y_,y_,y_,n_,y_,n_,y_,y_,y_,y_,y_,n_,n_,n_,n_,n_,n_,n_,n_,n_,n_,n_,n_,n_,n_,n_,n_,n_,n_,n_,n_,n_,n_,n_,n_,n_,n_,n_,n_,n_,n_,n_,n_] ?_
            refine tq1_ 19 65 #[y_,y_,y_,y_,y_,y_,y_,y_,y_,y_,y_,y_,y_,y_,y_,y_,y_,y_,y_,y_,y_,n_,y_,y_,y_,y_,y_,n_,n_,n_,n_,n_,n_,n_,n_,n_,n_,n_,n_,n_,n_,n_,n_,n_,n_,n_,n_,n_,n_,n_,n_,n_,n_,n_,n_,n_,n_,n_,n_] hHeld ?_
            refine one_ (i := 21) (N := some 67) #[y_,y_,y_,y_,y_,y_,y_,y_,y_,y_,y_,y_,y_,y_,y_,y_,y_,y_,y_,y_,y_,y_,y_,y_,y_,y_,y_,n_,n_,n_,n_,n_,n_,n_,n_,n_,n_,n_,n_,n_,n_,n_,n_,n_,n_,n_,n_,n_,n_,n_,n_,n_,n_,n_,n_,n_,n_,n_,n_] rfl rfl (one_of HT_.out (by kernel_rfl)) (by decide) (fun K hK => ?_)
            refine goes_ Try.func47 (by kernel_rfl) rfl #[.agg #[.int .u64 t512, .int .u64 t513], .int .i64 a2] (by rfl) rfl rfl (by (try simp only [List.map_toArray, List.map_cons, List.map_nil]); first | done | rfl) ?_
            with_reducible refine (span_URsh.calls t512 t513 a2 t538 t539 _ A51.out).mono ?_
            rintro e w72 ⟨rfl, hb⟩
            refine ⟨_, rfl, ?_⟩
            replace BK514 := bb_ hb BK514
            replace BK517 := bb_ hb BK517
            replace HB := bl_ hb
            try clear hb
            refine hK.out _ _ ⟨c0_ BK514, c1_ BK514, c0_ BK517, c1_ BK517⟩ (fun hHeld => ?_)
            clear hK K
            refine norm_ (a' := ?_) ?_ ?_
            rotate_left
            ·show Act.put _ (some 67) _ = _
             simp only [Act.put, s1_, s2_, s3_, i64_w, i32_w]
             rfl
            refine one_ (i := 27) (N := some 73) #[y_,y_,y_,y_,y_,y_,y_,y_,y_,y_,y_,y_,y_,y_,y_,y_,y_,y_,y_,y_,y_,y_,y_,y_,y_,y_,y_,y_,n_,n_,n_,n_,n_,n_,n_,n_,n_,n_,n_,n_,n_,n_,n_,n_,n_,n_,n_,n_,n_,n_,n_,n_,n_,n_,n_,n_,n_,n_,n_] rfl rfl (one_of HT_.out (by kernel_rfl)) (by decide) (fun K hK => ?_)
            refine goes_ Try.func42 (by kernel_rfl) rfl #[.int .u64 ji54] (by rfl) rfl rfl (by (try simp only [List.map_toArray, List.map_cons, List.map_nil]); first | done | (simp only [hji54]; rfl) | rfl | (simp only [List.length_drop, List.length_take]; rfl)) ?_
            with_reducible refine (span_UOf.calls ji54 t540 t541 _ A55.out).mono ?_
            rintro e w73 ⟨rfl, hb⟩
            refine ⟨_, rfl, ?_⟩
            replace BK514 := bb_ hb BK514
            replace BK517 := bb_ hb BK517
            replace HB := bl_ hb
            try clear hb
            refine hK.out _ _ ⟨c0_ BK514, c1_ BK514, c0_ BK517, c1_ BK517⟩ (fun hHeld => ?_)
            clear hK K
            refine norm_ (a' := ?_) ?_ ?_
            rotate_left
            ·show Act.put _ (some 73) _ = _
             simp only [Act.put, s1_, s2_, s3_, i64_w, i32_w]
             rfl
            refine pq_ 28 74 #[y_,y_,y_,y_,y_,y_,y_,y_,y_,y_,y_,y_,y_,y_,y_,y_,y_,y_,y_,y_,y_,y_,y_,y_,y_,y_,y_,y_,y_,n_,n_,n_,n_,n_,n_,n_,n_,n_,n_,n_,n_,n_,n_,n_,n_,n_,n_,n_,n_,n_,n_,n_,n_,n_,n_,n_,n_,n_,n_] ?_
            refine pq_ 29 75 #[y_,y_,y_,y_,y_,y_,y_,y_,y_,y_,y_,y_,y_,y_,y_,y_,y_,y_,y_,y_,y_,y_,y_,y_,y_,y_,y_,y_,y_,y_,n_,n_,n_,n_,n_,n_,n_,n_,n_,n_,n_,n_,n_,n_,n_,n_,n_,n_,n_,n_,n_,n_,n_,n_,n_,n_,n_,n_,n_] ?_
            refine pq_ 30 76 #[y_,y_,y_,y_,y_,y_,y_,y_,y_,y_,y_,y_,y_,y_,y_,y_,y_,y_,y_,y_,y_,y_,y_,y_,y_,y_,y_,y_,y_,y_,y_,n_,n_,n_,n_,n_,n_,n_,n_,n_,n_,n_,n_,n_,n_,n_,n_,n_,n_,n_,n_,n_,n_,n_,n_,n_,n_,n_,n_] ?_
            refine pq_ 33 79 #[y_,y_,y_,y_,y_,y_,y_,y_,y_,y_,y_,y_,y_,y_,y_,y_,y_,y_,y_,y_,y_,y_,y_,y_,y_,y_,y_,y_,y_,y_,y_,n_,n_,y_,n_,n_,n_,n_,n_,n_,n_,n_,n_,n_,n_,n_,n_,n_,n_,n_,n_,n_,n_,n_,n_,n_,n_,n_,n_] ?_
            refine pq_ 34 80 #[y_,y_,y_,y_,y_,y_,y_,y_,y_,y_,y_,y_,y_,y_,y_,y_,y_,y_,y_,y_,y_,y_,y_,y_,y_,y_,y_,y_,y_,y_,y_,n_,n_,y_,y_,n_,n_,n_,n_,n_,n_,n_,n_,n_,n_,n_,n_,n_,n_,n_,n_,n_,n_,n_,n_,n_,n_,n_,n_] ?_
            refine tq1_ 31 77 #[y_,y_,y_,y_,y_,y_,y_,y_,y_,y_,y_,y_,y_,y_,y_,y_,y_,y_,y_,y_,y_,y_,y_,y_,y_,y_,y_,y_,y_,y_,y_,y_,n_,y_,y_,n_,n_,n_,n_,n_,n_,n_,n_,n_,n_,n_,n_,n_,n_,n_,n_,n_,n_,n_,n_,n_,n_,n_,n_] hHeld ?_
            refine one_ (i := 32) (N := some 78) #[y_,y_,y_,y_,y_,y_,y_,y_,y_,y_,y_,y_,y_,y_,y_,y_,y_,y_,y_,y_,y_,y_,y_,y_,y_,y_,y_,y_,y_,y_,y_,y_,y_,y_,y_,n_,n_,n_,n_,n_,n_,n_,n_,n_,n_,n_,n_,n_,n_,n_,n_,n_,n_,n_,n_,n_,n_,n_,n_] rfl rfl (one_of HT_.out (by kernel_rfl)) (by decide) (fun K hK => ?_)
            refine goes_ Try.func48 (by kernel_rfl) rfl #[.agg #[.int .u64 t512, .int .u64 t513]] (by rfl) rfl rfl (by (try simp only [List.map_toArray, List.map_cons, List.map_nil]); first | done | rfl) ?_
            with_reducible refine (span_UCut.calls t512 t513 t542 t543 _ A57.out).mono ?_
            rintro e w74 ⟨rfl, hb⟩
            refine ⟨_, rfl, ?_⟩
            replace BK514 := bb_ hb BK514
            replace BK517 := bb_ hb BK517
            replace HB := bl_ hb
            try clear hb
            refine hK.out _ _ ⟨c0_ BK514, c1_ BK514, c0_ BK517, c1_ BK517⟩ (fun hHeld => ?_)
            clear hK K
            refine norm_ (a' := ?_) ?_ ?_
            rotate_left
            ·show Act.put _ (some 78) _ = _
             simp only [Act.put, s1_, s2_, s3_, i64_w, i32_w]
             rfl
            refine one_ (i := 35) (N := some 81) #[y_,y_,y_,y_,y_,y_,y_,y_,y_,y_,y_,y_,y_,y_,y_,y_,y_,y_,y_,y_,y_,y_,y_,y_,y_,y_,y_,y_,y_,y_,y_,y_,y_,y_,y_,y_,n_,n_,n_,n_,n_,n_,n_,n_,n_,n_,n_,n_,n_,n_,n_,n_,n_,n_,n_,n_,n_,n_,n_] rfl rfl (one_of HT_.out (by kernel_rfl)) (by decide) (fun K hK => ?_)
            refine goes_ Try.func42 (by kernel_rfl) rfl #[.int .u64 (Int.tmod a0 4294967296)] (by rfl) rfl rfl (by (try simp only [List.map_toArray, List.map_cons, List.map_nil]); first | done | rfl) ?_
            with_reducible refine (span_UOf.calls (Int.tmod a0 4294967296) t544 t545 _ A58.out).mono ?_
            rintro e w75 ⟨rfl, hb⟩
            refine ⟨_, rfl, ?_⟩
            replace BK514 := bb_ hb BK514
            replace BK517 := bb_ hb BK517
            replace HB := bl_ hb
            try clear hb
            refine hK.out _ _ ⟨c0_ BK514, c1_ BK514, c0_ BK517, c1_ BK517⟩ (fun hHeld => ?_)
            clear hK K
            refine norm_ (a' := ?_) ?_ ?_
            rotate_left
            ·show Act.put _ (some 81) _ = _
             simp only [Act.put, s1_, s2_, s3_, i64_w, i32_w]
             rfl
            refine pq_ 36 82 #[y_,y_,y_,y_,y_,y_,y_,y_,y_,y_,y_,y_,y_,y_,y_,y_,y_,y_,y_,y_,y_,y_,y_,y_,y_,y_,y_,y_,y_,y_,y_,y_,y_,y_,y_,y_,y_,n_,n_,n_,n_,n_,n_,n_,n_,n_,n_,n_,n_,n_,n_,n_,n_,n_,n_,n_,n_,n_,n_] ?_
            refine pq_ 37 83 #[y_,y_,y_,y_,y_,y_,y_,y_,y_,y_,y_,y_,y_,y_,y_,y_,y_,y_,y_,y_,y_,y_,y_,y_,y_,y_,y_,y_,y_,y_,y_,y_,y_,y_,y_,y_,y_,y_,n_,n_,n_,n_,n_,n_,n_,n_,n_,n_,n_,n_,n_,n_,n_,n_,n_,n_,n_,n_,n_] ?_
            refine pq_ 38 84 #[y_,y_,y_,y_,y_,y_,y_,y_,y_,y_,y_,y_,y_,y_,y_,y_,y_,y_,y_,y_,y_,y_,y_,y_,y_,y_,y_,y_,y_,y_,y_,y_,y_,y_,y_,y_,y_,y_,y_,n_,n_,n_,n_,n_,n_,n_,n_,n_,n_,n_,n_,n_,n_,n_,n_,n_,n_,n_,n_] ?_
            refine pq_ 41 87 #[y_,y_,y_,y_,y_,y_,y_,y_,y_,y_,y_,y_,y_,y_,y_,y_,y_,y_,y_,y_,y_,y_,y_,y_,y_,y_,y_,y_,y_,y_,y_,y_,y_,y_,y_,y_,y_,y_,y_,n_,n_,y_,n_,n_,n_,n_,n_,n_,n_,n_,n_,n_,n_,n_,n_,n_,n_,n_,n_] ?_
            refine tq1_ 39 85 #[y_,y_,y_,y_,y_,y_,y_,y_,y_,y_,y_,y_,y_,y_,y_,y_,y_,y_,y_,y_,y_,y_,y_,y_,y_,y_,y_,y_,y_,y_,y_,y_,y_,y_,y_,y_,y_,y_,y_,y_,n_,y_,n_,n_,n_,n_,n_,n_,n_,n_,n_,n_,n_,n_,n_,n_,n_,n_,n_] hHeld ?_
            refine one_ (i := 40) (N := some 86) #[y_,y_,y_,y_,y_,y_,y_,y_,y_,y_,y_,y_,y_,y_,y_,y_,y_,y_,y_,y_,y_,y_,y_,y_,y_,y_,y_,y_,y_,y_,y_,y_,y_,y_,y_,y_,y_,y_,y_,y_,y_,y_,n_,n_,n_,n_,n_,n_,n_,n_,n_,n_,n_,n_,n_,n_,n_,n_,n_] rfl rfl (one_of HT_.out (by kernel_rfl)) (by decide) (fun K hK => ?_)
            refine goes_ Try.func49 (by kernel_rfl) rfl #[.agg #[.int .u64 t512, .int .u64 t513]] (by rfl) rfl rfl (by (try simp only [List.map_toArray, List.map_cons, List.map_nil]); first | done | rfl) ?_
            with_reducible refine (span_ToS.calls t512 t513 t546 t547 _ A60.out).mono ?_
            rintro e w76 ⟨rfl, hb⟩
            refine ⟨_, rfl, ?_⟩
            replace BK514 := bb_ hb BK514
            replace BK517 := bb_ hb BK517
            replace HB := bl_ hb
            try clear hb
            refine hK.out _ _ ⟨c0_ BK514, c1_ BK514, c0_ BK517, c1_ BK517⟩ (fun hHeld => ?_)
            clear hK K
            refine norm_ (a' := ?_) ?_ ?_
            rotate_left
            ·show Act.put _ (some 86) _ = _
             simp only [Act.put, s1_, s2_, s3_, i64_w, i32_w]
             rfl
            refine one_ (i := 42) (N := some 88) #[y_,y_,y_,y_,y_,y_,y_,y_,y_,y_,y_,y_,y_,y_,y_,y_,y_,y_,y_,y_,y_,y_,y_,y_,y_,y_,y_,y_,y_,y_,y_,y_,y_,y_,y_,y_,y_,y_,y_,y_,y_,y_,y_,n_,n_,n_,n_,n_,n_,n_,n_,n_,n_,n_,n_,n_,n_,n_,n_] rfl rfl (one_of HT_.out (by kernel_rfl)) (by decide) (fun K hK => ?_)
            refine goes_ Try.func40 (by kernel_rfl) rfl #[.int .u64 a0] (by rfl) rfl rfl (by (try simp only [List.map_toArray, List.map_cons, List.map_nil]); first | done | rfl) ?_
            with_reducible refine (span_SOf.calls a0 t548 t549 _ A61.out).mono ?_
            rintro e w77 ⟨rfl, hb⟩
            refine ⟨_, rfl, ?_⟩
            replace BK514 := bb_ hb BK514
            replace BK517 := bb_ hb BK517
            replace HB := bl_ hb
            try clear hb
            refine hK.out _ _ ⟨c0_ BK514, c1_ BK514, c0_ BK517, c1_ BK517⟩ (fun hHeld => ?_)
            clear hK K
            refine norm_ (a' := ?_) ?_ ?_
            rotate_left
            ·show Act.put _ (some 88) _ = _
             simp only [Act.put, s1_, s2_, s3_, i64_w, i32_w]
             rfl
            refine pq_ 43 89 #[y_,y_,y_,y_,y_,y_,y_,y_,y_,y_,y_,y_,y_,y_,y_,y_,y_,y_,y_,y_,y_,y_,y_,y_,y_,y_,y_,y_,y_,y_,y_,y_,y_,y_,y_,y_,y_,y_,y_,y_,y_,y_,y_,y_,n_,n_,n_,n_,n_,n_,n_,n_,n_,n_,n_,n_,n_,n_,n_] ?_
            refine pq_ 44 90 #[y_,y_,y_,y_,y_,y_,y_,y_,y_,y_,y_,y_,y_,y_,y_,y_,y_,y_,y_,y_,y_,y_,y_,y_,y_,y_,y_,y_,y_,y_,y_,y_,y_,y_,y_,y_,y_,y_,y_,y_,y_,y_,y_,y_,y_,n_,n_,n_,n_,n_,n_,n_,n_,n_,n_,n_,n_,n_,n_] ?_
            refine pq_ 45 91 #[y_,y_,y_,y_,y_,y_,y_,y_,y_,y_,y_,y_,y_,y_,y_,y_,y_,y_,y_,y_,y_,y_,y_,y_,y_,y_,y_,y_,y_,y_,y_,y_,y_,y_,y_,y_,y_,y_,y_,y_,y_,y_,y_,y_,y_,y_,n_,n_,n_,n_,n_,n_,n_,n_,n_,n_,n_,n_,n_] ?_
            refine pq_ 46 92 #[y_,y_,y_,y_,y_,y_,y_,y_,y_,y_,y_,y_,y_,y_,y_,y_,y_,y_,y_,y_,y_,y_,y_,y_,y_,y_,y_,y_,y_,y_,y_,y_,y_,y_,y_,y_,y_,y_,y_,y_,y_,y_,y_,y_,y_,y_,y_,n_,n_,n_,n_,n_,n_,n_,n_,n_,n_,n_,n_] ?_
            refine tq1_ 49 95 #[y_,y_,y_,y_,y_,y_,y_,y_,y_,y_,y_,y_,y_,y_,y_,y_,y_,y_,y_,y_,y_,y_,y_,y_,y_,y_,y_,y_,y_,y_,y_,y_,y_,y_,y_,y_,y_,y_,y_,y_,y_,y_,y_,y_,y_,y_,y_,n_,n_,y_,n_,n_,n_,n_,n_,n_,n_,n_,n_] hHeld ?_
            refine one_ (i := 47) (N := some 93) #[y_,y_,y_,y_,y_,y_,y_,y_,y_,y_,y_,y_,y_,y_,y_,y_,y_,y_,y_,y_,y_,y_,y_,y_,y_,y_,y_,y_,y_,y_,y_,y_,y_,y_,y_,y_,y_,y_,y_,y_,y_,y_,y_,y_,y_,y_,y_,y_,n_,y_,n_,n_,n_,n_,n_,n_,n_,n_,n_] rfl rfl (one_of HT_.out (by kernel_rfl)) (by decide) (fun K hK => ?_)
            refine goes_ Try.func40 (by kernel_rfl) rfl #[.int .u64 a0] (by rfl) rfl rfl (by (try simp only [List.map_toArray, List.map_cons, List.map_nil]); first | done | rfl) ?_
            with_reducible refine (span_SOf.calls a0 t550 t551 _ A63.out).mono ?_
            rintro e w78 ⟨rfl, hb⟩
            refine ⟨_, rfl, ?_⟩
            replace BK514 := bb_ hb BK514
            replace BK517 := bb_ hb BK517
            replace HB := bl_ hb
            try clear hb
            refine hK.out _ _ ⟨c0_ BK514, c1_ BK514, c0_ BK517, c1_ BK517⟩ (fun hHeld => ?_)
            clear hK K
            refine norm_ (a' := ?_) ?_ ?_
            rotate_left
            ·show Act.put _ (some 93) _ = _
             simp only [Act.put, s1_, s2_, s3_, i64_w, i32_w]
             rfl
            refine one_ (i := 48) (N := some 94) #[y_,y_,y_,y_,y_,y_,y_,y_,y_,y_,y_,y_,y_,y_,y_,y_,y_,y_,y_,y_,y_,y_,y_,y_,y_,y_,y_,y_,y_,y_,y_,y_,y_,y_,y_,y_,y_,y_,y_,y_,y_,y_,y_,y_,y_,y_,y_,y_,y_,y_,n_,n_,n_,n_,n_,n_,n_,n_,n_] rfl rfl (one_of HT_.out (by kernel_rfl)) (by decide) (fun K hK => ?_)
            refine goes_ Try.func22 (by kernel_rfl) rfl #[.agg #[.int .i64 t550, .int .i64 t551]] (by rfl) rfl rfl (by (try simp only [List.map_toArray, List.map_cons, List.map_nil]); first | done | rfl) ?_
            with_reducible refine (span_ToU.calls t550 t551 t552 t553 _ A64.out).mono ?_
            rintro e w79 ⟨rfl, hb⟩
            refine ⟨_, rfl, ?_⟩
            replace BK514 := bb_ hb BK514
            replace BK517 := bb_ hb BK517
            replace HB := bl_ hb
            try clear hb
            refine hK.out _ _ ⟨c0_ BK514, c1_ BK514, c0_ BK517, c1_ BK517⟩ (fun hHeld => ?_)
            clear hK K
            refine norm_ (a' := ?_) ?_ ?_
            rotate_left
            ·show Act.put _ (some 94) _ = _
             simp only [Act.put, s1_, s2_, s3_, i64_w, i32_w]
             rfl
            refine pq_ 50 96 #[y_,y_,y_,y_,y_,y_,y_,y_,y_,y_,y_,y_,y_,y_,y_,y_,y_,y_,y_,y_,y_,y_,y_,y_,y_,y_,y_,y_,y_,y_,y_,y_,y_,y_,y_,y_,y_,y_,y_,y_,y_,y_,y_,y_,y_,y_,y_,y_,y_,y_,y_,n_,n_,n_,n_,n_,n_,n_,n_] ?_
            refine pq_ 51 97 #[y_,y_,y_,y_,y_,y_,y_,y_,y_,y_,y_,y_,y_,y_,y_,y_,y_,y_,y_,y_,y_,y_,y_,y_,y_,y_,y_,y_,y_,y_,y_,y_,y_,y_,y_,y_,y_,y_,y_,y_,y_,y_,y_,y_,y_,y_,y_,y_,y_,y_,y_,y_,n_,n_,n_,n_,n_,n_,n_] ?_
            refine pq_ 52 98 #[y_,y_,y_,y_,y_,y_,y_,y_,y_,y_,y_,y_,y_,y_,y_,y_,y_,y_,y_,y_,y_,y_,y_,y_,y_,y_,y_,y_,y_,y_,y_,y_,y_,y_,y_,y_,y_,y_,y_,y_,y_,y_,y_,y_,y_,y_,y_,y_,y_,y_,y_,y_,y_,n_,n_,n_,n_,n_,n_] ?_
            refine pq_ 55 101 #[y_,y_,y_,y_,y_,y_,y_,y_,y_,y_,y_,y_,y_,y_,y_,y_,y_,y_,y_,y_,y_,y_,y_,y_,y_,y_,y_,y_,y_,y_,y_,y_,y_,y_,y_,y_,y_,y_,y_,y_,y_,y_,y_,y_,y_,y_,y_,y_,y_,y_,y_,y_,y_,n_,n_,y_,n_,n_,n_] ?_
            refine pq_ 56 102 #[y_,y_,y_,y_,y_,y_,y_,y_,y_,y_,y_,y_,y_,y_,y_,y_,y_,y_,y_,y_,y_,y_,y_,y_,y_,y_,y_,y_,y_,y_,y_,y_,y_,y_,y_,y_,y_,y_,y_,y_,y_,y_,y_,y_,y_,y_,y_,y_,y_,y_,y_,y_,y_,n_,n_,y_,y_,n_,n_] ?_
            refine tq1_ 53 99 #[y_,y_,y_,y_,y_,y_,y_,y_,y_,y_,y_,y_,y_,y_,y_,y_,y_,y_,y_,y_,y_,y_,y_,y_,y_,y_,y_,y_,y_,y_,y_,y_,y_,y_,y_,y_,y_,y_,y_,y_,y_,y_,y_,y_,y_,y_,y_,y_,y_,y_,y_,y_,y_,y_,n_,y_,y_,n_,n_] hHeld ?_
            refine one_ (i := 54) (N := some 100) #[y_,y_,y_,y_,y_,y_,y_,y_,y_,y_,y_,y_,y_,y_,y_,y_,y_,y_,y_,y_,y_,y_,y_,y_,y_,y_,y_,y_,y_,y_,y_,y_,y_,y_,y_,y_,y_,y_,y_,y_,y_,y_,y_,y_,y_,y_,y_,y_,y_,y_,y_,y_,y_,y_,y_,y_,y_,n_,n_] rfl rfl (one_of HT_.out (by kernel_rfl)) (by decide) (fun K hK => ?_)
            refine goes_ Try.func50 (by kernel_rfl) rfl #[.agg #[.int .u64 t512, .int .u64 t513]] (by rfl) rfl rfl (by (try simp only [List.map_toArray, List.map_cons, List.map_nil]); first | done | rfl) ?_
            with_reducible refine (span_ToT.calls kj5 t512 t513 t554 t555 _ A66.out).mono ?_
            rintro e w80 ⟨rfl, hb⟩
            refine ⟨_, rfl, ?_⟩
            replace BK514 := bb_ hb BK514
            replace BK517 := bb_ hb BK517
            replace HB := bl_ hb
            try clear hb
            refine hK.out _ _ ⟨c0_ BK514, c1_ BK514, c0_ BK517, c1_ BK517⟩ (fun hHeld => ?_)
            clear hK K
            refine norm_ (a' := ?_) ?_ ?_
            rotate_left
            ·show Act.put _ (some 100) _ = _
             simp only [Act.put, s1_, s2_, s3_, i64_w, i32_w]
             rfl
            refine pq_ 57 103 #[y_,y_,y_,y_,y_,y_,y_,y_,y_,y_,y_,y_,y_,y_,y_,y_,y_,y_,y_,y_,y_,y_,y_,y_,y_,y_,y_,y_,y_,y_,y_,y_,y_,y_,y_,y_,y_,y_,y_,y_,y_,y_,y_,y_,y_,y_,y_,y_,y_,y_,y_,y_,y_,y_,y_,y_,y_,y_,n_] ?_
            refine pq_ 58 104 #[y_,y_,y_,y_,y_,y_,y_,y_,y_,y_,y_,y_,y_,y_,y_,y_,y_,y_,y_,y_,y_,y_,y_,y_,y_,y_,y_,y_,y_,y_,y_,y_,y_,y_,y_,y_,y_,y_,y_,y_,y_,y_,y_,y_,y_,y_,y_,y_,y_,y_,y_,y_,y_,y_,y_,y_,y_,y_,y_] ?_
            refine done_ (done_of HT_.out (by kernel_rfl)) ?_
            try go_wp2
            (first | (first | go_meet | (refine Met.intro ?_; go_step; (simp only [c65b0, c62b0, c59b0, c56b0, c53b1, c50b0, c47b0] at H' ⊢); (repeat apply Exists.intro); refine ⟨?rel, rfl⟩)) | ((try subst hji54); (try subst hji52); (first | go_meet | (refine Met.intro ?_; go_step; (simp only [c65b0, c62b0, c59b0, c56b0, c53b1, c50b0, c47b0] at H' ⊢); (repeat apply Exists.intro); refine ⟨?rel, rfl⟩))))
            case rel => exact ⟨_, ((!(t554 == a0) || (!(t555 == 0)))), (by first | rfl | (simp; done) | (simp [*]; done)), H', ⟨by have := HJ5.out; first | omega | exact Nat.le_refl _⟩, ⟨by exact bk_⟩, ⟨by exact bk_⟩, ⟨by repeat (first | (with_reducible first | exact HB.out | apply lA_ | apply lN_ | apply lD_ | refine lS_ ?_ GE514.out | refine lS_ ?_ GE517.out) | exact HB.out)⟩⟩
       ·rw [if_neg c53] at H
        exact absurd H (by simp)
    case rest =>
     clear HC44
     try clear c2
     try clear p2
     try clear c4
     try clear c5
     try clear c22
     try clear c40
     try clear c42
     try clear c46
     try clear c47
     try clear c48
     try clear c49
     try clear c50
     try clear c53
     obtain ⟨kq, x104_43, rfl, HA, HJ43, BK514, BK517, HB⟩ := hcut
     cases kq with
     | zero => exact absurd HA.out (by simp [lockgatelaw04_SpanExact.j1])
     | succ kj43 =>
      have H := HA.out
      clear HA
      simp only [lockgatelaw04_SpanExact.j1] at H
      by_cases c81 : x104_43 = true
      ·subst c81
       have H1 : (some false) = some r := by rw [if_pos rfl] at H; exact H
       clear H
       have H := H1
       clear H1
       exact absurd ((Option.some.inj H).trans HRT.out) (by decide)
      ·replace c81 := Bool.eq_false_iff.mpr c81
       subst c81
       have H1 : (if a1 = 0 then ((lockgatelaw04_works.f kj43).bind fun t556 => (some t556)) else ((span_UDiv.f t512 t513 t515 t516).bind fun bt557 => ((span_UOf.f (IntKind.u64.wrap (Int.tdiv a0 a1))).bind fun bt559 => (if (!(bt557.1 == bt559.1) || (!(bt557.2 == bt559.2))) = true then (some false) else ((span_UMod.f kj43 t512 t513 t515 t516).bind fun bt561 => ((span_UOf.f (Int.tmod a0 a1)).bind fun bt563 => (if (!(bt561.1 == bt563.1) || (!(bt561.2 == bt563.2))) = true then (some false) else ((lockgatelaw04_works.f kj43).bind fun t565 => (some t565))))))))) = some r := by rw [if_neg (show ¬ (false = true) by decide)] at H; exact H
       clear H
       have H := H1
       clear H1
       by_cases c82 : a1 = 0
       ·rw [if_pos c82] at H
        have c82b0 : (a1 == 0) = true := beq_iff_eq.mpr c82
        have c82b1 : (a1 != 0) = false := bne_eq_false_iff_eq.mpr c82
        clear c82
        replace H := Option.bind_eq_some_iff.mp H
        obtain ⟨t556, A830, H⟩ := H
        replace H : (some t556) = some r := H
        have A83 := Aside0.mk A830
        clear A830
        obtain rfl := Option.some.inj H
        try go_wp2
        replace BK514 := Aside0.mk (blk_drew BK514.out)
        replace BK517 := Aside0.mk (blk_drew BK517.out)
        replace HB := Aside0.mk (below_drew1 HB.out)
        refine start_ (n := 22) (S := fun w' => True) (ds := []) #[n_,n_,n_,n_,n_,n_,n_,n_,n_,n_,n_,n_,n_,n_,n_,n_,n_,n_,n_,n_,n_,n_] (by kernel_rfl) rfl rfl trivial (fun hHeld => ?_); refine with_tabW lockgatelaw04_SpanExact.tab8 lockgatelaw04_SpanExact.bits8 (fun HT_ HW_ => ?_)
        generalize wc.drew = w84 at BK514 BK517 HB hHeld ⊢
        refine pq_ 0 105 #[y_,n_,n_,n_,n_,n_,n_,n_,n_,n_,n_,n_,n_,n_,n_,n_,n_,n_,n_,n_,n_,n_] ?_
        refine pq_ 1 106 #[y_,y_,n_,n_,n_,n_,n_,n_,n_,n_,n_,n_,n_,n_,n_,n_,n_,n_,n_,n_,n_,n_] ?_
        refine pq_ 2 107 #[y_,y_,y_,n_,n_,n_,n_,n_,n_,n_,n_,n_,n_,n_,n_,n_,n_,n_,n_,n_,n_,n_] ?_
        refine pu_ 3 108 #[y_,y_,y_,y_,n_,n_,n_,n_,n_,n_,n_,n_,n_,n_,n_,n_,n_,n_,n_,n_,n_,n_] ?_
        refine pu_ 4 109 #[y_,y_,y_,y_,y_,n_,n_,n_,n_,n_,n_,n_,n_,n_,n_,n_,n_,n_,n_,n_,n_,n_] ?_
        refine pu_ 5 110 #[y_,y_,y_,y_,y_,y_,n_,n_,n_,n_,n_,n_,n_,n_,n_,n_,n_,n_,n_,n_,n_,n_] ?_
        refine pu_ 6 111 #[y_,y_,y_,y_,y_,y_,y_,n_,n_,n_,n_,n_,n_,n_,n_,n_,n_,n_,n_,n_,n_,n_] ?_
        refine pu_ 7 112 #[y_,y_,y_,y_,y_,y_,y_,y_,n_,n_,n_,n_,n_,n_,n_,n_,n_,n_,n_,n_,n_,n_] ?_
        refine pu_ 8 113 #[y_,y_,y_,y_,y_,y_,y_,y_,y_,n_,n_,n_,n_,n_,n_,n_,n_,n_,n_,n_,n_,n_] ?_
        refine pu_ 9 114 #[y_,y_,y_,y_,y_,y_,y_,y_,y_,y_,n_,n_,n_,n_,n_,n_,n_,n_,n_,n_,n_,n_] ?_
        refine pu_ 10 115 #[y_,y_,y_,y_,y_,y_,y_,y_,y_,y_,y_,n_,n_,n_,n_,n_,n_,n_,n_,n_,n_,n_] ?_
        refine pu_ 11 116 #[y_,y_,y_,y_,y_,y_,y_,y_,y_,y_,y_,y_,n_,n_,n_,n_,n_,n_,n_,n_,n_,n_] ?_
        refine pu_ 12 117 #[y_,y_,y_,y_,y_,y_,y_,y_,y_,y_,y_,y_,y_,n_,n_,n_,n_,n_,n_,n_,n_,n_] ?_
        refine pu_ 13 118 #[y_,y_,y_,y_,y_,y_,y_,y_,y_,y_,y_,y_,y_,y_,n_,n_,n_,n_,n_,n_,n_,n_] ?_
        refine pu_ 14 119 #[y_,y_,y_,y_,y_,y_,y_,y_,y_,y_,y_,y_,y_,y_,y_,n_,n_,n_,n_,n_,n_,n_] ?_
        refine pu_ 15 120 #[y_,y_,y_,y_,y_,y_,y_,y_,y_,y_,y_,y_,y_,y_,y_,y_,n_,n_,n_,n_,n_,n_] ?_
        refine pu_ 16 121 #[y_,y_,y_,y_,y_,y_,y_,y_,y_,y_,y_,y_,y_,y_,y_,y_,y_,n_,n_,n_,n_,n_] ?_
        refine pu_ 17 122 #[y_,y_,y_,y_,y_,y_,y_,y_,y_,y_,y_,y_,y_,y_,y_,y_,y_,y_,n_,n_,n_,n_] ?_
        refine pu_ 18 123 #[y_,y_,y_,y_,y_,y_,y_,y_,y_,y_,y_,y_,y_,y_,y_,y_,y_,y_,y_,n_,n_,n_] ?_
        refine pu_ 19 124 #[y_,y_,y_,y_,y_,y_,y_,y_,y_,y_,y_,y_,y_,y_,y_,y_,y_,y_,y_,y_,n_,n_] ?_
        refine pu_ 20 125 #[y_,y_,y_,y_,y_,y_,y_,y_,y_,y_,y_,y_,y_,y_,y_,y_,y_,y_,y_,y_,y_,n_] ?_
        refine pq_ 21 126 #[y_,y_,y_,y_,y_,y_,y_,y_,y_,y_,y_,y_,y_,y_,y_,y_,y_,y_,y_,y_,y_,y_] ?_
        refine done_ (done_of HT_.out (by kernel_rfl)) ?_
        try go_wp2_with (first | ((with_reducible refine gate_callee (f := 14) rfl ?_); refine goesL_ (some 127) rfl rfl Try.func14 (by kernel_rfl) rfl #[] rfl (by (try simp only [List.map_toArray, List.map_cons, List.map_nil]); first | done | rfl) ?_; (with_reducible refine (lockgatelaw04_works.calls kj43  t556 _ A83.out).mono ?_); rintro e w85 ⟨rfl, hb⟩; refine ⟨_, rfl, ?_⟩; replace BK514 := bb_ hb BK514; replace BK517 := bb_ hb BK517; replace HB := bl_ hb; (try clear hb); (try clear hb2); (try clear hk); (try clear hi)))
        go_ret
        exact ⟨vv_, bz_⟩
       ·rw [if_neg c82] at H
        have c82b0 : (a1 == 0) = false := beq_eq_false_iff_ne.mpr c82
        have c82b1 : (a1 != 0) = true := bne_iff_ne.mpr c82
        replace H := Option.bind_eq_some_iff.mp H
        obtain ⟨⟨t557, t558⟩, A860, H⟩ := H
        replace H : ((span_UOf.f (IntKind.u64.wrap (Int.tdiv a0 a1))).bind fun bt559 => (if (!(t557 == bt559.1) || (!(t558 == bt559.2))) = true then (some false) else ((span_UMod.f kj43 t512 t513 t515 t516).bind fun bt561 => ((span_UOf.f (Int.tmod a0 a1)).bind fun bt563 => (if (!(bt561.1 == bt563.1) || (!(bt561.2 == bt563.2))) = true then (some false) else ((lockgatelaw04_works.f kj43).bind fun t565 => (some t565))))))) = some r := H
        have A86 := Aside0.mk A860
        clear A860
        replace H := Option.bind_eq_some_iff.mp H
        obtain ⟨⟨t559, t560⟩, A870, H⟩ := H
        replace H : (if (!(t557 == t559) || (!(t558 == t560))) = true then (some false) else ((span_UMod.f kj43 t512 t513 t515 t516).bind fun bt561 => ((span_UOf.f (Int.tmod a0 a1)).bind fun bt563 => (if (!(bt561.1 == bt563.1) || (!(bt561.2 == bt563.2))) = true then (some false) else ((lockgatelaw04_works.f kj43).bind fun t565 => (some t565)))))) = some r := H
        have A87 := Aside0.mk A870
        clear A870
        by_cases c88 : (!(t557 == t559) || (!(t558 == t560))) = true
        ·rw [if_pos c88] at H
         have c88b0 : (!(t557 == t559) || (!(t558 == t560))) = true := c88
         clear c88
         exact absurd ((Option.some.inj H).trans HRT.out) (by decide)
        ·rw [if_neg c88] at H
         have c88b0 : (!(t557 == t559) || (!(t558 == t560))) = false := by simpa using c88
         clear c88
         replace H := Option.bind_eq_some_iff.mp H
         obtain ⟨⟨t561, t562⟩, A890, H⟩ := H
         replace H : ((span_UOf.f (Int.tmod a0 a1)).bind fun bt563 => (if (!(t561 == bt563.1) || (!(t562 == bt563.2))) = true then (some false) else ((lockgatelaw04_works.f kj43).bind fun t565 => (some t565)))) = some r := H
         have A89 := Aside0.mk A890
         clear A890
         replace H := Option.bind_eq_some_iff.mp H
         obtain ⟨⟨t563, t564⟩, A900, H⟩ := H
         replace H : (if (!(t561 == t563) || (!(t562 == t564))) = true then (some false) else ((lockgatelaw04_works.f kj43).bind fun t565 => (some t565))) = some r := H
         have A90 := Aside0.mk A900
         clear A900
         by_cases c91 : (!(t561 == t563) || (!(t562 == t564))) = true
         ·rw [if_pos c91] at H
          have c91b0 : (!(t561 == t563) || (!(t562 == t564))) = true := c91
          clear c91
          exact absurd ((Option.some.inj H).trans HRT.out) (by decide)
         ·rw [if_neg c91] at H
          have c91b0 : (!(t561 == t563) || (!(t562 == t564))) = false := by simpa using c91
          clear c91
          replace H := Option.bind_eq_some_iff.mp H
          obtain ⟨t565, A920, H⟩ := H
          replace H : (some t565) = some r := H
          have A92 := Aside0.mk A920
          clear A920
          obtain rfl := Option.some.inj H
          try go_wp2
          replace BK514 := Aside0.mk (blk_drew BK514.out)
          replace BK517 := Aside0.mk (blk_drew BK517.out)
          replace HB := Aside0.mk (below_drew1 HB.out)
          refine start_ (n := 22) (S := fun w' => w'.cell? ⟨gb514, 0, none⟩ = some (.int .u64 t512) ∧ w'.cell? ⟨gb514, 1, none⟩ = some (.int .u64 t513) ∧ w'.cell? ⟨gb517, 0, none⟩ = some (.int .u64 t515) ∧ w'.cell? ⟨gb517, 1, none⟩ = some (.int .u64 t516)) (ds := []) #[n_,n_,n_,n_,n_,n_,n_,n_,n_,n_,n_,n_,n_,n_,n_,n_,n_,n_,n_,n_,n_,n_] (by kernel_rfl) rfl rfl ⟨c0_ BK514, c1_ BK514, c0_ BK517, c1_ BK517⟩ (fun hHeld => ?_); refine with_tabW lockgatelaw04_SpanExact.tab8 lockgatelaw04_SpanExact.bits8 (fun HT_ HW_ => ?_)
          generalize wc.drew = w93 at BK514 BK517 HB hHeld ⊢
          refine pq_ 0 105 #[y_,n_,n_,n_,n_,n_,n_,n_,n_,n_,n_,n_,n_,n_,n_,n_,n_,n_,n_,n_,n_,n_] ?_
          refine pq_ 1 106 #[y_,y_,n_,n_,n_,n_,n_,n_,n_,n_,n_,n_,n_,n_,n_,n_,n_,n_,n_,n_,n_,n_] ?_
          refine pq_ 2 107 #[y_,y_,y_,n_,n_,n_,n_,n_,n_,n_,n_,n_,n_,n_,n_,n_,n_,n_,n_,n_,n_,n_] ?_
          refine pq_ 6 111 #[y_,y_,y_,n_,n_,n_,y_,n_,n_,n_,n_,n_,n_,n_,n_,n_,n_,n_,n_,n_,n_,n_] ?_
          refine pq_ 7 112 #[y_,y_,y_,n_,n_,n_,y_,y_,n_,n_,n_,n_,n_,n_,n_,n_,n_,n_,n_,n_,n_,n_] ?_
          refine pq_ 8 113 #[y_,y_,y_,n_,n_,n_,y_,y_,y_,n_,n_,n_,n_,n_,n_,n_,n_,n_,n_,n_,n_,n_] ?_
          refine tq1_ 3 108 #[y_,y_,y_,y_,n_,n_,y_,y_,y_,n_,n_,n_,n_,n_,n_,n_,n_,n_,n_,n_,n_,n_] hHeld ?_
          refine tq1_ 4 109 #[y_,y_,y_,y_,y_,n_,y_,y_,y_,n_,n_,n_,n_,n_,n_,n_,n_,n_,n_,n_,n_,n_] hHeld ?_
          refine one_ (i := 5) (N := some 110) #[y_,y_,y_,y_,y_,y_,y_,y_,y_,n_,n_,n_,n_,n_,n_,n_,n_,n_,n_,n_,n_,n_] rfl rfl (one_of HT_.out (by kernel_rfl)) (by decide) (fun K hK => ?_)
          refine goes_ Try.func51 (by kernel_rfl) rfl #[.agg #[.int .u64 t512, .int .u64 t513], .agg #[.int .u64 t515, .int .u64 t516]] (by rfl) rfl rfl (by (try simp only [List.map_toArray, List.map_cons, List.map_nil]); first | done | rfl) ?_
          with_reducible refine (span_UDiv.calls t512 t513 t515 t516 t557 t558 _ A86.out).mono ?_
          rintro e w94 ⟨rfl, hb⟩
          refine ⟨_, rfl, ?_⟩
          replace BK514 := bb_ hb BK514
          replace BK517 := bb_ hb BK517
          replace HB := bl_ hb
          try clear hb
          refine hK.out _ _ ⟨c0_ BK514, c1_ BK514, c0_ BK517, c1_ BK517⟩ (fun hHeld => ?_)
          clear hK K
          refine norm_ (a' := ?_) ?_ ?_
          rotate_left
          ·show Act.put _ (some 110) _ = _
           simp only [Act.put, s1_, s2_, s3_, i64_w, i32_w]
           rfl
          refine one_ (i := 9) (N := some 114) #[y_,y_,y_,y_,y_,y_,y_,y_,y_,y_,n_,n_,n_,n_,n_,n_,n_,n_,n_,n_,n_,n_] rfl rfl (one_of HT_.out (by kernel_rfl)) (by decide) (fun K hK => ?_)
          refine goes_ Try.func42 (by kernel_rfl) rfl #[.int .u64 (IntKind.u64.wrap (Int.tdiv a0 a1))] (by rfl) rfl rfl (by (try simp only [List.map_toArray, List.map_cons, List.map_nil]); first | done | rfl) ?_
          with_reducible refine (span_UOf.calls (IntKind.u64.wrap (Int.tdiv a0 a1)) t559 t560 _ A87.out).mono ?_
          rintro e w95 ⟨rfl, hb⟩
          refine ⟨_, rfl, ?_⟩
          replace BK514 := bb_ hb BK514
          replace BK517 := bb_ hb BK517
          replace HB := bl_ hb
          try clear hb
          refine hK.out _ _ ⟨c0_ BK514, c1_ BK514, c0_ BK517, c1_ BK517⟩ (fun hHeld => ?_)
          clear hK K
          refine norm_ (a' := ?_) ?_ ?_
          rotate_left
          ·show Act.put _ (some 114) _ = _
           simp only [Act.put, s1_, s2_, s3_, i64_w, i32_w]
           rfl
          refine pq_ 10 115 #[y_,y_,y_,y_,y_,y_,y_,y_,y_,y_,y_,n_,n_,n_,n_,n_,n_,n_,n_,n_,n_,n_] ?_
          refine pq_ 11 116 #[y_,y_,y_,y_,y_,y_,y_,y_,y_,y_,y_,y_,n_,n_,n_,n_,n_,n_,n_,n_,n_,n_] ?_
          refine pq_ 15 120 #[y_,y_,y_,y_,y_,y_,y_,y_,y_,y_,y_,y_,n_,n_,n_,y_,n_,n_,n_,n_,n_,n_] ?_
          refine pq_ 16 121 #[y_,y_,y_,y_,y_,y_,y_,y_,y_,y_,y_,y_,n_,n_,n_,y_,y_,n_,n_,n_,n_,n_] ?_
          refine pq_ 17 122 #[y_,y_,y_,y_,y_,y_,y_,y_,y_,y_,y_,y_,n_,n_,n_,y_,y_,y_,n_,n_,n_,n_] ?_
          refine tq1_ 12 117 #[y_,y_,y_,y_,y_,y_,y_,y_,y_,y_,y_,y_,y_,n_,n_,y_,y_,y_,n_,n_,n_,n_] hHeld ?_
          refine tq1_ 13 118 #[y_,y_,y_,y_,y_,y_,y_,y_,y_,y_,y_,y_,y_,y_,n_,y_,y_,y_,n_,n_,n_,n_] hHeld ?_
          refine one_ (i := 14) (N := some 119) #[y_,y_,y_,y_,y_,y_,y_,y_,y_,y_,y_,y_,y_,y_,y_,y_,y_,y_,n_,n_,n_,n_] rfl rfl (one_of HT_.out (by kernel_rfl)) (by decide) (fun K hK => ?_)
          refine goes_ Try.func52 (by kernel_rfl) rfl #[.agg #[.int .u64 t512, .int .u64 t513], .agg #[.int .u64 t515, .int .u64 t516]] (by rfl) rfl rfl (by (try simp only [List.map_toArray, List.map_cons, List.map_nil]); first | done | rfl) ?_
          with_reducible refine (span_UMod.calls kj43 t512 t513 t515 t516 t561 t562 _ A89.out).mono ?_
          rintro e w96 ⟨rfl, hb⟩
          refine ⟨_, rfl, ?_⟩
          replace BK514 := bb_ hb BK514
          replace BK517 := bb_ hb BK517
          replace HB := bl_ hb
          try clear hb
          refine hK.out _ _ ⟨c0_ BK514, c1_ BK514, c0_ BK517, c1_ BK517⟩ (fun hHeld => ?_)
          clear hK K
          refine norm_ (a' := ?_) ?_ ?_
          rotate_left
          ·show Act.put _ (some 119) _ = _
           simp only [Act.put, s1_, s2_, s3_, i64_w, i32_w]
           rfl
          refine one_ (i := 18) (N := some 123) #[y_,y_,y_,y_,y_,y_,y_,y_,y_,y_,y_,y_,y_,y_,y_,y_,y_,y_,y_,n_,n_,n_] rfl rfl (one_of HT_.out (by kernel_rfl)) (by decide) (fun K hK => ?_)
          refine goes_ Try.func42 (by kernel_rfl) rfl #[.int .u64 (Int.tmod a0 a1)] (by rfl) rfl rfl (by (try simp only [List.map_toArray, List.map_cons, List.map_nil]); first | done | rfl) ?_
          with_reducible refine (span_UOf.calls (Int.tmod a0 a1) t563 t564 _ A90.out).mono ?_
          rintro e w97 ⟨rfl, hb⟩
          refine ⟨_, rfl, ?_⟩
          replace BK514 := bb_ hb BK514
          replace BK517 := bb_ hb BK517
          replace HB := bl_ hb
          try clear hb
          refine hK.out _ _ ⟨c0_ BK514, c1_ BK514, c0_ BK517, c1_ BK517⟩ (fun hHeld => ?_)
          clear hK K
          refine norm_ (a' := ?_) ?_ ?_
          rotate_left
          ·show Act.put _ (some 123) _ = _
           simp only [Act.put, s1_, s2_, s3_, i64_w, i32_w]
           rfl
          refine pq_ 19 124 #[y_,y_,y_,y_,y_,y_,y_,y_,y_,y_,y_,y_,y_,y_,y_,y_,y_,y_,y_,y_,n_,n_] ?_
          refine pq_ 20 125 #[y_,y_,y_,y_,y_,y_,y_,y_,y_,y_,y_,y_,y_,y_,y_,y_,y_,y_,y_,y_,y_,n_] ?_
          refine pq_ 21 126 #[y_,y_,y_,y_,y_,y_,y_,y_,y_,y_,y_,y_,y_,y_,y_,y_,y_,y_,y_,y_,y_,y_] ?_
          refine done_ (done_of HT_.out (by kernel_rfl)) ?_
          try go_wp2_with (first | ((with_reducible refine gate_callee (f := 14) rfl ?_); refine goesL_ (some 127) rfl rfl Try.func14 (by kernel_rfl) rfl #[] rfl (by (try simp only [List.map_toArray, List.map_cons, List.map_nil]); first | done | rfl) ?_; (with_reducible refine (lockgatelaw04_works.calls kj43  t565 _ A92.out).mono ?_); rintro e w98 ⟨rfl, hb⟩; refine ⟨_, rfl, ?_⟩; replace BK514 := bb_ hb BK514; replace BK517 := bb_ hb BK517; replace HB := bl_ hb; (try clear hb); (try clear hb2); (try clear hk); (try clear hi)))
          go_ret
          exact ⟨vv_, bz_⟩

end Go.Proofs.Ytnephcecobocdaa.PA
