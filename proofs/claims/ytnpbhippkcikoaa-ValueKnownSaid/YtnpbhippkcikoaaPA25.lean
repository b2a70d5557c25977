-- PRINTED by print.py (a twelfth state) out of the translation. Not trusted: Lean checks it.
import Derived.Test.YtnpbhippkcikoaaPA0
import Derived.Test.YtnpbhippkcikoaaSq
import Derived.Test.YtnpbhippkcikoaaPA9
import Derived.Test.YtnpbhippkcikoaaPA20
namespace Go.Proofs.Ytnpbhippkcikoaa.PA
open Go.RowKit Go.Proofs.YtnpbhippkcikoaaW.PrintWords Go.Proofs.YtnpbhippkcikoaaW.PrintLast Go.Proofs.YtnpbhippkcikoaaW.PrintMore
attribute [local go_sem] max2_int min2_int max_two min_two max_three min_three max_four min_four   -- for this text's walks alone
set_option linter.unusedVariables false
set_option linter.unusedSimpArgs false

/-! ### lockgatelaw14_ValueOrders: function 7 -/
def lockgatelaw14_ValueOrders.j0 : Nat → Int → Bool → Int → Int → Int → Int → Int → Int → Option (Bool)
 | 0, _, _, _, _, _, _, _, _ => none
 | k + 1, x1, x126, x375000, x375001, x375002, x376000, x376001, x376002 => if x126 = true then (some false) else ((value_Compare.f k 1 true x375000 x375001 x375002 x376000 x376001 x376002 x1).bind fun bt388 => ((value_Compare.f k 10 false x375000 x375001 x375002 x376000 x376001 x376002 x1).bind fun bt390 => ((value_Compare.f k 10 true x375000 x375001 x375002 x375000 x375001 x375002 x1).bind fun bt392 => (if bt388.2 = 21 then (if bt390.2 = 21 then (if bt392.2 = 21 then ((lockgatelaw14_works.f k).bind fun t394 => (some t394)) else (some false)) else (some false)) else (some false)))))
def lockgatelaw14_ValueOrders.f (k : Nat) (a0 : Int) (a1 : Int) : Option (Bool) := (value_Compare.f k 10 true 2 a0 0 3 0 0 a1).bind fun bt376 => ((value_Compare.f k 3 true 2 a0 0 3 0 0 a1).bind fun bt378 => ((value_Compare.f k 11 true 2 a0 0 3 0 0 a1).bind fun bt380 => ((value_Compare.f k 2 true 2 a0 0 3 0 0 a1).bind fun bt382 => ((value_Compare.f k 2 true 3 0 0 2 a0 0 a1).bind fun bt384 => ((value_Compare.f k 3 true 3 0 0 2 a0 0 a1).bind fun bt386 => (if bt376.2 = 0 then (if bt378.2 = 0 then (if bt380.2 = 0 then (if bt382.2 = 0 then (if bt384.2 = 0 then (if bt386.2 = 0 then (if (bt376.1 == bt378.1) = true then (lockgatelaw14_ValueOrders.j0 k a1 true 2 a0 0 3 0 0) else (if (bt380.1 == bt382.1) = true then (lockgatelaw14_ValueOrders.j0 k a1 true 2 a0 0 3 0 0) else (if (bt376.1 != bt384.1) = true then (lockgatelaw14_ValueOrders.j0 k a1 true 2 a0 0 3 0 0) else (if (bt380.1 != bt386.1) = true then (lockgatelaw14_ValueOrders.j0 k a1 true 2 a0 0 3 0 0) else (if bt376.1 = true then (if bt380.1 = true then (lockgatelaw14_ValueOrders.j0 k a1 (bt380.1 != (decide ((wrap64 (a0)) ≤ a1))) 2 a0 0 3 0 0) else (lockgatelaw14_ValueOrders.j0 k a1 true 2 a0 0 3 0 0)) else (lockgatelaw14_ValueOrders.j0 k a1 (bt380.1 != (decide ((wrap64 (a0)) ≤ a1))) 2 a0 0 3 0 0)))))) else (lockgatelaw14_ValueOrders.j0 k a1 true 2 a0 0 3 0 0)) else (lockgatelaw14_ValueOrders.j0 k a1 true 2 a0 0 3 0 0)) else (lockgatelaw14_ValueOrders.j0 k a1 true 2 a0 0 3 0 0)) else (lockgatelaw14_ValueOrders.j0 k a1 true 2 a0 0 3 0 0)) else (lockgatelaw14_ValueOrders.j0 k a1 true 2 a0 0 3 0 0)) else (lockgatelaw14_ValueOrders.j0 k a1 true 2 a0 0 3 0 0)))))))
theorem lockgatelaw14_ValueOrders.mono_l : ∀ k, (∀ y0 y1 y2 y3 y4 y5 y6 y7, LeO (lockgatelaw14_ValueOrders.j0 k y0 y1 y2 y3 y4 y5 y6 y7) (lockgatelaw14_ValueOrders.j0 (k + 1) y0 y1 y2 y3 y4 y5 y6 y7))
 | 0 => fun _ _ _ _ _ _ _ _ r h => by simp [lockgatelaw14_ValueOrders.j0] at h
 | k + 1 => by
  have ih0 := lockgatelaw14_ValueOrders.mono_l k
  ·intro y0 y1 y2 y3 y4 y5 y6 y7
   unfold lockgatelaw14_ValueOrders.j0
   repeat' first
   | (with_reducible exact ih0 _ _ _ _ _ _ _ _)
   | (with_reducible exact lockgatelaw14_works.mono _)
   | (with_reducible exact value_Compare.mono _ _ _ _ _ _ _ _ _ _)
   | (with_reducible exact LeO.refl _)
   | (with_reducible exact LeO.none _)
   | (with_reducible refine LeO.ite ?_ ?_)
   | (with_reducible refine LeO.bind ?_ (fun _ => ?_))
   | exact ih0 _ _ _ _ _ _ _ _
   | exact lockgatelaw14_works.mono _
   | exact value_Compare.mono _ _ _ _ _ _ _ _ _ _
   | exact LeO.none _
   | refine LeO.ite ?_ ?_
   | refine LeO.bind ?_ (fun _ => ?_)
theorem lockgatelaw14_ValueOrders.mono : ∀ a0 a1 k, LeO (lockgatelaw14_ValueOrders.f k a0 a1) (lockgatelaw14_ValueOrders.f (k + 1) a0 a1) := by
 intro a0 a1 k
 have ih0 := lockgatelaw14_ValueOrders.mono_l k
 unfold lockgatelaw14_ValueOrders.f
 repeat' first
  | (with_reducible exact ih0 _ _ _ _ _ _ _ _)
  | (with_reducible exact lockgatelaw14_works.mono _)
  | (with_reducible exact value_Compare.mono _ _ _ _ _ _ _ _ _ _)
  | (with_reducible exact LeO.refl _)
  | (with_reducible exact LeO.none _)
  | (with_reducible refine LeO.ite ?_ ?_)
  | (with_reducible refine LeO.bind ?_ (fun _ => ?_))
  | exact ih0 _ _ _ _ _ _ _ _
  | exact lockgatelaw14_works.mono _
  | exact value_Compare.mono _ _ _ _ _ _ _ _ _ _
  | exact LeO.none _
  | refine LeO.ite ?_ ?_
  | refine LeO.bind ?_ (fun _ => ?_)
set_option maxHeartbeats 8000000 in
set_option maxRecDepth 100000 in
theorem lockgatelaw14_ValueOrders.calls (k : Nat) (a0 : Int) (a1 : Int) (r : Bool) (w : World) (HRT : Aside0 (r = true)) (h : lockgatelaw14_ValueOrders.f k a0 a1 = some r) :
 Calls Try.prog 7 #[.int .u64 a0, .int .i64 a1] w fun e w' => e = .returned (.bool r) ∧ Below w.heap.size w w' := by
 have hu24 := Try.underlying24
 have HB := Aside0.mk (Below.refl w.heap.size w)
 have H : ((value_Compare.f k 10 true 2 a0 0 3 0 0 a1).bind fun bt376 => ((value_Compare.f k 3 true 2 a0 0 3 0 0 a1).bind fun bt378 => ((value_Compare.f k 11 true 2 a0 0 3 0 0 a1).bind fun bt380 => ((value_Compare.f k 2 true 2 a0 0 3 0 0 a1).bind fun bt382 => ((value_Compare.f k 2 true 3 0 0 2 a0 0 a1).bind fun bt384 => ((value_Compare.f k 3 true 3 0 0 2 a0 0 a1).bind fun bt386 => (if bt376.2 = 0 then (if bt378.2 = 0 then (if bt380.2 = 0 then (if bt382.2 = 0 then (if bt384.2 = 0 then (if bt386.2 = 0 then (if (bt376.1 == bt378.1) = true then (lockgatelaw14_ValueOrders.j0 k a1 true 2 a0 0 3 0 0) else (if (bt380.1 == bt382.1) = true then (lockgatelaw14_ValueOrders.j0 k a1 true 2 a0 0 3 0 0) else (if (bt376.1 != bt384.1) = true then (lockgatelaw14_ValueOrders.j0 k a1 true 2 a0 0 3 0 0) else (if (bt380.1 != bt386.1) = true then (lockgatelaw14_ValueOrders.j0 k a1 true 2 a0 0 3 0 0) else (if bt376.1 = true then (if bt380.1 = true then (lockgatelaw14_ValueOrders.j0 k a1 (bt380.1 != (decide ((wrap64 (a0)) ≤ a1))) 2 a0 0 3 0 0) else (lockgatelaw14_ValueOrders.j0 k a1 true 2 a0 0 3 0 0)) else (lockgatelaw14_ValueOrders.j0 k a1 (bt380.1 != (decide ((wrap64 (a0)) ≤ a1))) 2 a0 0 3 0 0)))))) else (lockgatelaw14_ValueOrders.j0 k a1 true 2 a0 0 3 0 0)) else (lockgatelaw14_ValueOrders.j0 k a1 true 2 a0 0 3 0 0)) else (lockgatelaw14_ValueOrders.j0 k a1 true 2 a0 0 3 0 0)) else (lockgatelaw14_ValueOrders.j0 k a1 true 2 a0 0 3 0 0)) else (lockgatelaw14_ValueOrders.j0 k a1 true 2 a0 0 3 0 0)) else (lockgatelaw14_ValueOrders.j0 k a1 true 2 a0 0 3 0 0)))))))) = some r := h
 clear h
 replace H := Option.bind_eq_some_iff.mp H
 obtain ⟨⟨t376, t377⟩, A30, H⟩ := H
 replace H : ((value_Compare.f k 3 true 2 a0 0 3 0 0 a1).bind fun bt378 => ((value_Compare.f k 11 true 2 a0 0 3 0 0 a1).bind fun bt380 => ((value_Compare.f k 2 true 2 a0 0 3 0 0 a1).bind fun bt382 => ((value_Compare.f k 2 true 3 0 0 2 a0 0 a1).bind fun bt384 => ((value_Compare.f k 3 true 3 0 0 2 a0 0 a1).bind fun bt386 => (if t377 = 0 then (if bt378.2 = 0 then (if bt380.2 = 0 then (if bt382.2 = 0 then (if bt384.2 = 0 then (if bt386.2 = 0 then (if (t376 == bt378.1) = true then (lockgatelaw14_ValueOrders.j0 k a1 true 2 a0 0 3 0 0) else (if (bt380.1 == bt382.1) = true then (lockgatelaw14_ValueOrders.j0 k a1 true 2 a0 0 3 0 0) else (if (t376 != bt384.1) = true then (lockgatelaw14_ValueOrders.j0 k a1 true 2 a0 0 3 0 0) else (if (bt380.1 != bt386.1) = true then (lockgatelaw14_ValueOrders.j0 k a1 true 2 a0 0 3 0 0) else (if t376 = true then (if bt380.1 = true then (lockgatelaw14_ValueOrders.j0 k a1 (bt380.1 != (decide ((wrap64 (a0)) ≤ a1))) 2 a0 0 3 0 0) else (lockgatelaw14_ValueOrders.j0 k a1 true 2 a0 0 3 0 0)) else (lockgatelaw14_ValueOrders.j0 k a1 (bt380.1 != (decide ((wrap64 (a0)) ≤ a1))) 2 a0 0 3 0 0)))))) else (lockgatelaw14_ValueOrders.j0 k a1 true 2 a0 0 3 0 0)) else (lockgatelaw14_ValueOrders.j0 k a1 true 2 a0 0 3 0 0)) else (lockgatelaw14_ValueOrders.j0 k a1 true 2 a0 0 3 0 0)) else (lockgatelaw14_ValueOrders.j0 k a1 true 2 a0 0 3 0 0)) else (lockgatelaw14_ValueOrders.j0 k a1 true 2 a0 0 3 0 0)) else (lockgatelaw14_ValueOrders.j0 k a1 true 2 a0 0 3 0 0))))))) = some r := H
 have A3 := Aside0.mk A30
 clear A30
 replace H := Option.bind_eq_some_iff.mp H
 obtain ⟨⟨t378, t379⟩, A40, H⟩ := H
 replace H : ((value_Compare.f k 11 true 2 a0 0 3 0 0 a1).bind fun bt380 => ((value_Compare.f k 2 true 2 a0 0 3 0 0 a1).bind fun bt382 => ((value_Compare.f k 2 true 3 0 0 2 a0 0 a1).bind fun bt384 => ((value_Compare.f k 3 true 3 0 0 2 a0 0 a1).bind fun bt386 => (if t377 = 0 then (if t379 = 0 then (if bt380.2 = 0 then (if bt382.2 = 0 then (if bt384.2 = 0 then (if bt386.2 = 0 then (if (t376 == t378) = true then (lockgatelaw14_ValueOrders.j0 k a1 true 2 a0 0 3 0 0) else (if (bt380.1 == bt382.1) = true then (lockgatelaw14_ValueOrders.j0 k a1 true 2 a0 0 3 0 0) else (if (t376 != bt384.1) = true then (lockgatelaw14_ValueOrders.j0 k a1 true 2 a0 0 3 0 0) else (if (bt380.1 != bt386.1) = true then (lockgatelaw14_ValueOrders.j0 k a1 true 2 a0 0 3 0 0) else (if t376 = true then (if bt380.1 = true then (lockgatelaw14_ValueOrders.j0 k a1 (bt380.1 != (decide ((wrap64 (a0)) ≤ a1))) 2 a0 0 3 0 0) else (lockgatelaw14_ValueOrders.j0 k a1 true 2 a0 0 3 0 0)) else (lockgatelaw14_ValueOrders.j0 k a1 (bt380.1 != (decide ((wrap64 (a0)) ≤ a1))) 2 a0 0 3 0 0)))))) else (lockgatelaw14_ValueOrders.j0 k a1 true 2 a0 0 3 0 0)) else (lockgatelaw14_ValueOrders.j0 k a1 true 2 a0 0 3 0 0)) else (lockgatelaw14_ValueOrders.j0 k a1 true 2 a0 0 3 0 0)) else (lockgatelaw14_ValueOrders.j0 k a1 true 2 a0 0 3 0 0)) else (lockgatelaw14_ValueOrders.j0 k a1 true 2 a0 0 3 0 0)) else (lockgatelaw14_ValueOrders.j0 k a1 true 2 a0 0 3 0 0)))))) = some r := H
 have A4 := Aside0.mk A40
 clear A40
 replace H := Option.bind_eq_some_iff.mp H
 obtain ⟨⟨t380, t381⟩, A50, H⟩ := H
 replace H : ((value_Compare.f k 2 true 2 a0 0 3 0 0 a1).bind fun bt382 => ((value_Compare.f k 2 true 3 0 0 2 a0 0 a1).bind fun bt384 => ((value_Compare.f k 3 true 3 0 0 2 a0 0 a1).bind fun bt386 => (if t377 = 0 then (if t379 = 0 then (if t381 = 0 then (if bt382.2 = 0 then (if bt384.2 = 0 then (if bt386.2 = 0 then (if (t376 == t378) = true then (lockgatelaw14_ValueOrders.j0 k a1 true 2 a0 0 3 0 0) else (if (t380 == bt382.1) = true then (lockgatelaw14_ValueOrders.j0 k a1 true 2 a0 0 3 0 0) else (if (t376 != bt384.1) = true then (lockgatelaw14_ValueOrders.j0 k a1 true 2 a0 0 3 0 0) else (if (t380 != bt386.1) = true then (lockgatelaw14_ValueOrders.j0 k a1 true 2 a0 0 3 0 0) else (if t376 = true then (if t380 = true then (lockgatelaw14_ValueOrders.j0 k a1 (t380 != (decide ((wrap64 (a0)) ≤ a1))) 2 a0 0 3 0 0) else (lockgatelaw14_ValueOrders.j0 k a1 true 2 a0 0 3 0 0)) else (lockgatelaw14_ValueOrders.j0 k a1 (t380 != (decide ((wrap64 (a0)) ≤ a1))) 2 a0 0 3 0 0)))))) else (lockgatelaw14_ValueOrders.j0 k a1 true 2 a0 0 3 0 0)) else (lockgatelaw14_ValueOrders.j0 k a1 true 2 a0 0 3 0 0)) else (lockgatelaw14_ValueOrders.j0 k a1 true 2 a0 0 3 0 0)) else (lockgatelaw14_ValueOrders.j0 k a1 true 2 a0 0 3 0 0)) else (lockgatelaw14_ValueOrders.j0 k a1 true 2 a0 0 3 0 0)) else (lockgatelaw14_ValueOrders.j0 k a1 true 2 a0 0 3 0 0))))) = some r := H
 have A5 := Aside0.mk A50
 clear A50
 replace H := Option.bind_eq_some_iff.mp H
 obtain ⟨⟨t382, t383⟩, A60, H⟩ := H
 replace H : ((value_Compare.f k 2 true 3 0 0 2 a0 0 a1).bind fun bt384 => ((value_Compare.f k 3 true 3 0 0 2 a0 0 a1).bind fun bt386 => (if t377 = 0 then (if t379 = 0 then (if t381 = 0 then (if t383 = 0 then (if bt384.2 = 0 then (if bt386.2 = 0 then (if (t376 == t378) = true then (lockgatelaw14_ValueOrders.j0 k a1 true 2 a0 0 3 0 0) else (if (t380 == t382) = true then (lockgatelaw14_ValueOrders.j0 k a1 true 2 a0 0 3 0 0) else (if (t376 != bt384.1) = true then (lockgatelaw14_ValueOrders.j0 k a1 true 2 a0 0 3 0 0) else (if (t380 != bt386.1) = true then (lockgatelaw14_ValueOrders.j0 k a1 true 2 a0 0 3 0 0) else (if t376 = true then (if t380 = true then (lockgatelaw14_ValueOrders.j0 k a1 (t380 != (decide ((wrap64 (a0)) ≤ a1))) 2 a0 0 3 0 0) else (lockgatelaw14_ValueOrders.j0 k a1 true 2 a0 0 3 0 0)) else (lockgatelaw14_ValueOrders.j0 k a1 (t380 != (decide ((wrap64 (a0)) ≤ a1))) 2 a0 0 3 0 0)))))) else (lockgatelaw14_ValueOrders.j0 k a1 true 2 a0 0 3 0 0)) else (lockgatelaw14_ValueOrders.j0 k a1 true 2 a0 0 3 0 0)) else (lockgatelaw14_ValueOrders.j0 k a1 true 2 a0 0 3 0 0)) else (lockgatelaw14_ValueOrders.j0 k a1 true 2 a0 0 3 0 0)) else (lockgatelaw14_ValueOrders.j0 k a1 true 2 a0 0 3 0 0)) else (lockgatelaw14_ValueOrders.j0 k a1 true 2 a0 0 3 0 0)))) = some r := H
 have A6 := Aside0.mk A60
 clear A60
 replace H := Option.bind_eq_some_iff.mp H
 obtain ⟨⟨t384, t385⟩, A70, H⟩ := H
 replace H : ((value_Compare.f k 3 true 3 0 0 2 a0 0 a1).bind fun bt386 => (if t377 = 0 then (if t379 = 0 then (if t381 = 0 then (if t383 = 0 then (if t385 = 0 then (if bt386.2 = 0 then (if (t376 == t378) = true then (lockgatelaw14_ValueOrders.j0 k a1 true 2 a0 0 3 0 0) else (if (t380 == t382) = true then (lockgatelaw14_ValueOrders.j0 k a1 true 2 a0 0 3 0 0) else (if (t376 != t384) = true then (lockgatelaw14_ValueOrders.j0 k a1 true 2 a0 0 3 0 0) else (if (t380 != bt386.1) = true then (lockgatelaw14_ValueOrders.j0 k a1 true 2 a0 0 3 0 0) else (if t376 = true then (if t380 = true then (lockgatelaw14_ValueOrders.j0 k a1 (t380 != (decide ((wrap64 (a0)) ≤ a1))) 2 a0 0 3 0 0) else (lockgatelaw14_ValueOrders.j0 k a1 true 2 a0 0 3 0 0)) else (lockgatelaw14_ValueOrders.j0 k a1 (t380 != (decide ((wrap64 (a0)) ≤ a1))) 2 a0 0 3 0 0)))))) else (lockgatelaw14_ValueOrders.j0 k a1 true 2 a0 0 3 0 0)) else (lockgatelaw14_ValueOrders.j0 k a1 true 2 a0 0 3 0 0)) else (lockgatelaw14_ValueOrders.j0 k a1 true 2 a0 0 3 0 0)) else (lockgatelaw14_ValueOrders.j0 k a1 true 2 a0 0 3 0 0)) else (lockgatelaw14_ValueOrders.j0 k a1 true 2 a0 0 3 0 0)) else (lockgatelaw14_ValueOrders.j0 k a1 true 2 a0 0 3 0 0))) = some r := H
 have A7 := Aside0.mk A70
 clear A70
 replace H := Option.bind_eq_some_iff.mp H
 obtain ⟨⟨t386, t387⟩, A80, H⟩ := H
 replace H : (if t377 = 0 then (if t379 = 0 then (if t381 = 0 then (if t383 = 0 then (if t385 = 0 then (if t387 = 0 then (if (t376 == t378) = true then (lockgatelaw14_ValueOrders.j0 k a1 true 2 a0 0 3 0 0) else (if (t380 == t382) = true then (lockgatelaw14_ValueOrders.j0 k a1 true 2 a0 0 3 0 0) else (if (t376 != t384) = true then (lockgatelaw14_ValueOrders.j0 k a1 true 2 a0 0 3 0 0) else (if (t380 != t386) = true then (lockgatelaw14_ValueOrders.j0 k a1 true 2 a0 0 3 0 0) else (if t376 = true then (if t380 = true then (lockgatelaw14_ValueOrders.j0 k a1 (t380 != (decide ((wrap64 (a0)) ≤ a1))) 2 a0 0 3 0 0) else (lockgatelaw14_ValueOrders.j0 k a1 true 2 a0 0 3 0 0)) else (lockgatelaw14_ValueOrders.j0 k a1 (t380 != (decide ((wrap64 (a0)) ≤ a1))) 2 a0 0 3 0 0)))))) else (lockgatelaw14_ValueOrders.j0 k a1 true 2 a0 0 3 0 0)) else (lockgatelaw14_ValueOrders.j0 k a1 true 2 a0 0 3 0 0)) else (lockgatelaw14_ValueOrders.j0 k a1 true 2 a0 0 3 0 0)) else (lockgatelaw14_ValueOrders.j0 k a1 true 2 a0 0 3 0 0)) else (lockgatelaw14_ValueOrders.j0 k a1 true 2 a0 0 3 0 0)) else (lockgatelaw14_ValueOrders.j0 k a1 true 2 a0 0 3 0 0)) = some r := H
 have A8 := Aside0.mk A80
 clear A80
 have HC9 := Aside0.mk H
 clear H
 go_enter Try.func7, Try.ntmps7
 go_upto_region 9 with (first | ((with_reducible refine gate_dst (N := 5) rfl ?_); refine bx_ 5 #[.int .i64 0, .int .u64 0, .int .i64 0] 24 ?_; intro gb374 hg w10 BK374 hb; have GW374 := bg_ hg; have GE374 := GW374; replace HB := bl_ hb; clear hb hg; obtain ⟨zc11_0, zc11_1, zc11_2, zf11_0, zf11_1, zf11_2⟩ := k3_ BK374) | ((with_reducible refine gate_dst (N := 6) rfl ?_); refine box_event ?hg (N := 6) ?hd (cs := #[.int .i64 0, .int .u64 0, .int .i64 0]) (t := 24) ?hr ?_; (case hd => rfl); (case hg => rfl); (case hr => first | (go_simp; done) | (go_simp; rfl)); intro gb375 hg w12 hbox hb; have n0_ := Aside0.mk (blk_below (g := gb374) (o := .cells #[.int .i64 2, .int .u64 a0, .int .i64 0] 24 (0, 0)) (by (with_reducible repeat (first | apply bN_ | apply bD_ | apply bA_)); refine blk_put (cs := #[.int .i64 2, .int .u64 a0, .int .i64 0]) ?_ 2 _ rfl; (with_reducible repeat (first | apply bN_ | apply bD_ | apply bA_)); refine blk_put (cs := #[.int .i64 2, .int .u64 0, .int .i64 0]) ?_ 1 _ rfl; (with_reducible repeat (first | apply bN_ | apply bD_ | apply bA_)); refine blk_put (cs := #[.int .i64 0, .int .u64 0, .int .i64 0]) ?_ 0 _ rfl; exact bk_) hb); have n1_ := bl_ hb; have n2_ := Aside0.mk (hbox); have n3_ := bg_ hg; have n4_ := bg_ hg; have n5_ := Aside0.mk ((by rw [hg]; exact Nat.ne_of_lt (blk_lt (g := gb374) (o := .cells #[.int .i64 2, .int .u64 a0, .int .i64 0] 24 (0, 0)) (by (with_reducible repeat (first | apply bN_ | apply bD_ | apply bA_)); refine blk_put (cs := #[.int .i64 2, .int .u64 a0, .int .i64 0]) ?_ 2 _ rfl; (with_reducible repeat (first | apply bN_ | apply bD_ | apply bA_)); refine blk_put (cs := #[.int .i64 2, .int .u64 0, .int .i64 0]) ?_ 1 _ rfl; (with_reducible repeat (first | apply bN_ | apply bD_ | apply bA_)); refine blk_put (cs := #[.int .i64 0, .int .u64 0, .int .i64 0]) ?_ 0 _ rfl; exact bk_)) : gb374 ≠ gb375)); have n6_ := Aside0.mk ((by rw [hg]; exact Nat.ne_of_gt (blk_lt (g := gb374) (o := .cells #[.int .i64 2, .int .u64 a0, .int .i64 0] 24 (0, 0)) (by (with_reducible repeat (first | apply bN_ | apply bD_ | apply bA_)); refine blk_put (cs := #[.int .i64 2, .int .u64 a0, .int .i64 0]) ?_ 2 _ rfl; (with_reducible repeat (first | apply bN_ | apply bD_ | apply bA_)); refine blk_put (cs := #[.int .i64 2, .int .u64 0, .int .i64 0]) ?_ 1 _ rfl; (with_reducible repeat (first | apply bN_ | apply bD_ | apply bA_)); refine blk_put (cs := #[.int .i64 0, .int .u64 0, .int .i64 0]) ?_ 0 _ rfl; exact bk_)) : gb375 ≠ gb374)); clear BK374; clear HB; have BK374 := n0_; have HB := n1_; have BK375 := n2_; have GW375 := n3_; have GE375 := n4_; have NB374_375 := n5_; have NB375_374 := n6_; clear n0_ n1_ n2_ n3_ n4_ n5_ n6_; clear hb hbox hg; have hnb13 := NB375_374.out; have hnc13 := NB374_375.out; obtain ⟨zc14_0, zc14_1, zc14_2, zf14_0, zf14_1, zf14_2⟩ := k3_ BK375; obtain ⟨zc15_0, zc15_1, zc15_2, zf15_0, zf15_1, zf15_2⟩ := k3_ BK374) | ((with_reducible refine gate_callee (f := 20) rfl ?_); refine gM_ 32 Try.func20 (value_Compare.calls k 10 true 2 a0 0 3 0 0 a1 t376 t377 _ A3.out) ?_; intro w16 hb; replace BK374 := Aside0.mk (blk_below (g := gb374) (o := .cells #[.int .i64 2, .int .u64 a0, .int .i64 0] 24 (0, 0)) (by (with_reducible repeat (first | apply bN_ | apply bD_ | apply bA_)); refine blk_far ?_ NB374_375.out _; (with_reducible repeat (first | apply bN_ | apply bD_ | apply bA_)); refine blk_far ?_ NB374_375.out _; (with_reducible repeat (first | apply bN_ | apply bD_ | apply bA_)); refine blk_far ?_ NB374_375.out _; exact bk_) hb); replace BK375 := Aside0.mk (blk_below (g := gb375) (o := .cells #[.int .i64 3, .int .u64 0, .int .i64 0] 24 (0, 0)) (by (with_reducible repeat (first | apply bN_ | apply bD_ | apply bA_)); refine blk_put (cs := #[.int .i64 3, .int .u64 0, .int .i64 0]) ?_ 2 _ rfl; (with_reducible repeat (first | apply bN_ | apply bD_ | apply bA_)); refine blk_put (cs := #[.int .i64 3, .int .u64 0, .int .i64 0]) ?_ 1 _ rfl; (with_reducible repeat (first | apply bN_ | apply bD_ | apply bA_)); refine blk_put (cs := #[.int .i64 0, .int .u64 0, .int .i64 0]) ?_ 0 _ rfl; exact bk_) hb); replace HB := bl_ hb; (try clear hb); (try clear hb2); (try clear hk); (try clear hi); obtain ⟨zc17_0, zc17_1, zc17_2, zf17_0, zf17_1, zf17_2⟩ := k3_ BK374; obtain ⟨zc18_0, zc18_1, zc18_2, zf18_0, zf18_1, zf18_2⟩ := k3_ BK375) | ((with_reducible refine gate_callee (f := 20) rfl ?_); refine gM_ 39 Try.func20 (value_Compare.calls k 3 true 2 a0 0 3 0 0 a1 t378 t379 _ A4.out) ?_; intro w19 hb; replace BK374 := bb_ hb BK374; replace BK375 := bb_ hb BK375; replace HB := bl_ hb; (try clear hb); (try clear hb2); (try clear hk); (try clear hi); obtain ⟨zc20_0, zc20_1, zc20_2, zf20_0, zf20_1, zf20_2⟩ := k3_ BK374; obtain ⟨zc21_0, zc21_1, zc21_2, zf21_0, zf21_1, zf21_2⟩ := k3_ BK375) | ((with_reducible refine gate_callee (f := 20) rfl ?_); refine gM_ 46 Try.func20 (value_Compare.calls k 11 true 2 a0 0 3 0 0 a1 t380 t381 _ A5.out) ?_; intro w22 hb; replace BK374 := bb_ hb BK374; replace BK375 := bb_ hb BK375; replace HB := bl_ hb; (try clear hb); (try clear hb2); (try clear hk); (try clear hi); obtain ⟨zc23_0, zc23_1, zc23_2, zf23_0, zf23_1, zf23_2⟩ := k3_ BK374; obtain ⟨zc24_0, zc24_1, zc24_2, zf24_0, zf24_1, zf24_2⟩ := k3_ BK375) | ((with_reducible refine gate_callee (f := 20) rfl ?_); refine gM_ 53 Try.func20 (value_Compare.calls k 2 true 2 a0 0 3 0 0 a1 t382 t383 _ A6.out) ?_; intro w25 hb; replace BK374 := bb_ hb BK374; replace BK375 := bb_ hb BK375; replace HB := bl_ hb; (try clear hb); (try clear hb2); (try clear hk); (try clear hi); obtain ⟨zc26_0, zc26_1, zc26_2, zf26_0, zf26_1, zf26_2⟩ := k3_ BK375; obtain ⟨zc27_0, zc27_1, zc27_2, zf27_0, zf27_1, zf27_2⟩ := k3_ BK374) | ((with_reducible refine gate_callee (f := 20) rfl ?_); refine gM_ 60 Try.func20 (value_Compare.calls k 2 true 3 0 0 2 a0 0 a1 t384 t385 _ A7.out) ?_; intro w28 hb; replace BK374 := bb_ hb BK374; replace BK375 := bb_ hb BK375; replace HB := bl_ hb; (try clear hb); (try clear hb2); (try clear hk); (try clear hi); obtain ⟨zc29_0, zc29_1, zc29_2, zf29_0, zf29_1, zf29_2⟩ := k3_ BK375; obtain ⟨zc30_0, zc30_1, zc30_2, zf30_0, zf30_1, zf30_2⟩ := k3_ BK374) | ((with_reducible refine gate_callee (f := 20) rfl ?_); refine gM_ 67 Try.func20 (value_Compare.calls k 3 true 3 0 0 2 a0 0 a1 t386 t387 _ A8.out) ?_; intro w31 hb; replace BK374 := bb_ hb BK374; replace BK375 := bb_ hb BK375; replace HB := bl_ hb; (try clear hb); (try clear hb2); (try clear hk); (try clear hi)))
 (try simp only [Act.put, s1_, s2_, s3_])
 go_cut [126] (fun v126 wc => ∃ (kq : Nat) (x126_8 : Bool), v126 = .bool x126_8 ∧ Aside0 (lockgatelaw14_ValueOrders.j0 kq a1 x126_8 2 a0 0 3 0 0 = some r) ∧ Aside0 (kq ≤ k) ∧ Aside0 (wc.heap[gb374]? = some (.cells #[.int .i64 2, .int .u64 a0, .int .i64 0] 24 (0, 0))) ∧ Aside0 (wc.heap[gb375]? = some (.cells #[.int .i64 3, .int .u64 0, .int .i64 0] 24 (0, 0))) ∧ Aside0 (Below w.heap.size w wc))
 case first =>
  have H := HC9.out
  clear HC9
  by_cases c32 : t377 = 0
  ·rw [if_pos c32] at H
   have c32b0 : (t377 == 0) = true := beq_iff_eq.mpr c32
   have c32b1 : (t377 != 0) = false := bne_eq_false_iff_eq.mpr c32
   clear c32
   (first | rw [c32b0] | (simp only [i64_w, i32_w]; rw [c32b0]) | skip)
   by_cases c33 : t379 = 0
   ·rw [if_pos c33] at H
    have c33b0 : (t379 == 0) = true := beq_iff_eq.mpr c33
    have c33b1 : (t379 != 0) = false := bne_eq_false_iff_eq.mpr c33
    clear c33
    by_cases c34 : t381 = 0
    ·rw [if_pos c34] at H
     have c34b0 : (t381 == 0) = true := beq_iff_eq.mpr c34
     have c34b1 : (t381 != 0) = false := bne_eq_false_iff_eq.mpr c34
     clear c34
     by_cases c35 : t383 = 0
     ·rw [if_pos c35] at H
      have c35b0 : (t383 == 0) = true := beq_iff_eq.mpr c35
      have c35b1 : (t383 != 0) = false := bne_eq_false_iff_eq.mpr c35
      clear c35
      by_cases c36 : t385 = 0
      ·rw [if_pos c36] at H
       have c36b0 : (t385 == 0) = true := beq_iff_eq.mpr c36
       have c36b1 : (t385 != 0) = false := bne_eq_false_iff_eq.mpr c36
       clear c36
       by_cases c37 : t387 = 0
       ·rw [if_pos c37] at H
        have c37b0 : (t387 == 0) = true := beq_iff_eq.mpr c37
        have c37b1 : (t387 != 0) = false := bne_eq_false_iff_eq.mpr c37
        clear c37
        by_cases c38 : (t376 == t378) = true
        ·rw [if_pos c38] at H
         have c38b0 : (t376 == t378) = true := c38
         (try (have c38b1 : decide (t376 = t378) = true := by simpa using c38))
         (try (have c38b2 : (t376 == t378) = true := by simpa using c38))
         clear c38
         exfalso
         cases k with
         | zero => rw [lockgatelaw14_ValueOrders.j0] at H; exact nomatch H
         | succ q_ => rw [lockgatelaw14_ValueOrders.j0, if_pos rfl] at H; exact absurd ((Option.some.inj H).trans HRT.out) (by decide)
        ·rw [if_neg c38] at H
         have c38b0 : (t376 == t378) = false := by simpa using c38
         (try (have c38b1 : decide (t376 = t378) = false := by simpa using c38))
         (try (have c38b2 : (t376 == t378) = false := by simpa using c38))
         (try (have c38b3 : ¬ (t376 = t378) := by simpa using c38))
         clear c38
         by_cases c39 : (t380 == t382) = true
         ·rw [if_pos c39] at H
          have c39b0 : (t380 == t382) = true := c39
          (try (have c39b1 : decide (t380 = t382) = true := by simpa using c39))
          (try (have c39b2 : (t380 == t382) = true := by simpa using c39))
          clear c39
          exfalso
          cases k with
          | zero => rw [lockgatelaw14_ValueOrders.j0] at H; exact nomatch H
          | succ q_ => rw [lockgatelaw14_ValueOrders.j0, if_pos rfl] at H; exact absurd ((Option.some.inj H).trans HRT.out) (by decide)
         ·rw [if_neg c39] at H
          have c39b0 : (t380 == t382) = false := by simpa using c39
          (try (have c39b1 : decide (t380 = t382) = false := by simpa using c39))
          (try (have c39b2 : (t380 == t382) = false := by simpa using c39))
          (try (have c39b3 : ¬ (t380 = t382) := by simpa using c39))
          clear c39
          by_cases c40 : (t376 != t384) = true
          ·rw [if_pos c40] at H
           have c40b0 : (t376 != t384) = true := c40
           (try (have c40b1 : decide (t376 = t384) = false := by simpa using c40))
           (try (have c40b2 : (t376 == t384) = false := by simpa using c40))
           (try (have c40b3 : ¬ (t376 = t384) := by simpa using c40))
           clear c40
           exfalso
           cases k with
           | zero => rw [lockgatelaw14_ValueOrders.j0] at H; exact nomatch H
           | succ q_ => rw [lockgatelaw14_ValueOrders.j0, if_pos rfl] at H; exact absurd ((Option.some.inj H).trans HRT.out) (by decide)
          ·rw [if_neg c40] at H
           have c40b0 : (t376 != t384) = false := by simpa using c40
           (try (have c40b1 : decide (t376 = t384) = true := by simpa using c40))
           (try (have c40b2 : (t376 == t384) = true := by simpa using c40))
           clear c40
           by_cases c41 : (t380 != t386) = true
           ·rw [if_pos c41] at H
            have c41b0 : (t380 != t386) = true := c41
            (try (have c41b1 : decide (t380 = t386) = false := by simpa using c41))
            (try (have c41b2 : (t380 == t386) = false := by simpa using c41))
            (try (have c41b3 : ¬ (t380 = t386) := by simpa using c41))
            clear c41
            exfalso
            cases k with
            | zero => rw [lockgatelaw14_ValueOrders.j0] at H; exact nomatch H
            | succ q_ => rw [lockgatelaw14_ValueOrders.j0, if_pos rfl] at H; exact absurd ((Option.some.inj H).trans HRT.out) (by decide)
           ·rw [if_neg c41] at H
            have c41b0 : (t380 != t386) = false := by simpa using c41
            (try (have c41b1 : decide (t380 = t386) = true := by simpa using c41))
            (try (have c41b2 : (t380 == t386) = true := by simpa using c41))
            clear c41
            by_cases c42 : t376 = true
            ·subst c42
             have H1 : (if t380 = true then (lockgatelaw14_ValueOrders.j0 k a1 (t380 != (decide ((wrap64 (a0)) ≤ a1))) 2 a0 0 3 0 0) else (lockgatelaw14_ValueOrders.j0 k a1 true 2 a0 0 3 0 0)) = some r := by rw [if_pos rfl] at H; exact H
             clear H
             have H := H1
             clear H1
             by_cases c43 : t380 = true
             ·subst c43
              have H1 : (lockgatelaw14_ValueOrders.j0 k a1 (true != (decide ((wrap64 (a0)) ≤ a1))) 2 a0 0 3 0 0) = some r := by rw [if_pos rfl] at H; exact H
              clear H
              have H := H1
              clear H1
              have H' := Aside0.mk H
              clear H
              go_wp2
              go_meet
              case rel => exact ⟨_, ((true != (decide ((wrap64 (a0)) ≤ a1)))), (by first | rfl | (simp; done) | (simp [*]; done)), H', ⟨by first | omega | exact Nat.le_refl _⟩, ⟨bk_⟩, ⟨bk_⟩, ⟨bz_⟩⟩
             ·replace c43 := Bool.eq_false_iff.mpr c43
              subst c43
              have H1 : (lockgatelaw14_ValueOrders.j0 k a1 true 2 a0 0 3 0 0) = some r := by rw [if_neg (show ¬ (false = true) by decide)] at H; exact H
              clear H
              have H := H1
              clear H1
              exfalso
              cases k with
              | zero => rw [lockgatelaw14_ValueOrders.j0] at H; exact nomatch H
              | succ q_ => rw [lockgatelaw14_ValueOrders.j0, if_pos rfl] at H; exact absurd ((Option.some.inj H).trans HRT.out) (by decide)
            ·replace c42 := Bool.eq_false_iff.mpr c42
             subst c42
             have H1 : (lockgatelaw14_ValueOrders.j0 k a1 (t380 != (decide ((wrap64 (a0)) ≤ a1))) 2 a0 0 3 0 0) = some r := by rw [if_neg (show ¬ (false = true) by decide)] at H; exact H
             clear H
             have H := H1
             clear H1
             have H' := Aside0.mk H
             clear H
             go_wp2
             go_meet
             case rel => exact ⟨_, ((t380 != (decide ((wrap64 (a0)) ≤ a1)))), (by first | rfl | (simp; done) | (simp [*]; done)), H', ⟨by first | omega | exact Nat.le_refl _⟩, ⟨bk_⟩, ⟨bk_⟩, ⟨bz_⟩⟩
       ·rw [if_neg c37] at H
        have c37b0 : (t387 == 0) = false := beq_eq_false_iff_ne.mpr c37
        have c37b1 : (t387 != 0) = true := bne_iff_ne.mpr c37
        exfalso
        cases k with
        | zero => rw [lockgatelaw14_ValueOrders.j0] at H; exact nomatch H
        | succ q_ => rw [lockgatelaw14_ValueOrders.j0, if_pos rfl] at H; exact absurd ((Option.some.inj H).trans HRT.out) (by decide)
      ·rw [if_neg c36] at H
       have c36b0 : (t385 == 0) = false := beq_eq_false_iff_ne.mpr c36
       have c36b1 : (t385 != 0) = true := bne_iff_ne.mpr c36
       exfalso
       cases k with
       | zero => rw [lockgatelaw14_ValueOrders.j0] at H; exact nomatch H
       | succ q_ => rw [lockgatelaw14_ValueOrders.j0, if_pos rfl] at H; exact absurd ((Option.some.inj H).trans HRT.out) (by decide)
     ·rw [if_neg c35] at H
      have c35b0 : (t383 == 0) = false := beq_eq_false_iff_ne.mpr c35
      have c35b1 : (t383 != 0) = true := bne_iff_ne.mpr c35
      exfalso
      cases k with
      | zero => rw [lockgatelaw14_ValueOrders.j0] at H; exact nomatch H
      | succ q_ => rw [lockgatelaw14_ValueOrders.j0, if_pos rfl] at H; exact absurd ((Option.some.inj H).trans HRT.out) (by decide)
    ·rw [if_neg c34] at H
     have c34b0 : (t381 == 0) = false := beq_eq_false_iff_ne.mpr c34
     have c34b1 : (t381 != 0) = true := bne_iff_ne.mpr c34
     exfalso
     cases k with
     | zero => rw [lockgatelaw14_ValueOrders.j0] at H; exact nomatch H
     | succ q_ => rw [lockgatelaw14_ValueOrders.j0, if_pos rfl] at H; exact absurd ((Option.some.inj H).trans HRT.out) (by decide)
   ·rw [if_neg c33] at H
    have c33b0 : (t379 == 0) = false := beq_eq_false_iff_ne.mpr c33
    have c33b1 : (t379 != 0) = true := bne_iff_ne.mpr c33
    exfalso
    cases k with
    | zero => rw [lockgatelaw14_ValueOrders.j0] at H; exact nomatch H
    | succ q_ => rw [lockgatelaw14_ValueOrders.j0, if_pos rfl] at H; exact absurd ((Option.some.inj H).trans HRT.out) (by decide)
  ·rw [if_neg c32] at H
   have c32b0 : (t377 == 0) = false := beq_eq_false_iff_ne.mpr c32
   have c32b1 : (t377 != 0) = true := bne_iff_ne.mpr c32
   (first | rw [c32b0] | (simp only [i64_w, i32_w]; rw [c32b0]) | skip)
   exfalso
   cases k with
   | zero => rw [lockgatelaw14_ValueOrders.j0] at H; exact nomatch H
   | succ q_ => rw [lockgatelaw14_ValueOrders.j0, if_pos rfl] at H; exact absurd ((Option.some.inj H).trans HRT.out) (by decide)
 case rest =>
  clear HC9
  try clear c1
  try clear c2
  try clear p2
  try clear c3
  try clear c4
  try clear p6
  try clear c7
  try clear c13
  try clear c20
  try clear c32
  try clear c32b0
  try clear c32b1
  try clear c33
  try clear c33b0
  try clear c33b1
  try clear c34
  try clear c34b0
  try clear c34b1
  try clear c35
  try clear c35b0
  try clear c35b1
  try clear c36
  try clear c36b0
  try clear c36b1
  try clear c37
  try clear c37b0
  try clear c37b1
  try clear c38
  try clear c38b0
  try clear c38b1
  try clear c38b2
  try clear c39
  try clear c39b0
  try clear c39b1
  try clear c39b2
  try clear c40
  try clear c40b0
  try clear c40b1
  try clear c40b2
  try clear c41
  try clear c41b0
  try clear c41b1
  try clear c41b2
  try clear c42
  try clear c43
  try clear zc11_0
  try clear zc11_1
  try clear zc11_2
  try clear zc14_0
  try clear zc14_1
  try clear zc14_2
  try clear zc15_0
  try clear zc15_1
  try clear zc15_2
  try clear zc17_0
  try clear zc17_1
  try clear zc17_2
  try clear zc18_0
  try clear zc18_1
  try clear zc18_2
  try clear zc20_0
  try clear zc20_1
  try clear zc20_2
  try clear zc21_0
  try clear zc21_1
  try clear zc21_2
  try clear zc23_0
  try clear zc23_1
  try clear zc23_2
  try clear zc24_0
  try clear zc24_1
  try clear zc24_2
  try clear zc26_0
  try clear zc26_1
  try clear zc26_2
  try clear zc27_0
  try clear zc27_1
  try clear zc27_2
  try clear zc29_0
  try clear zc29_1
  try clear zc29_2
  try clear zc30_0
  try clear zc30_1
  try clear zc30_2
  try clear zf11_0
  try clear zf11_1
  try clear zf11_2
  try clear zf14_0
  try clear zf14_1
  try clear zf14_2
  try clear zf15_0
  try clear zf15_1
  try clear zf15_2
  try clear zf17_0
  try clear zf17_1
  try clear zf17_2
  try clear zf18_0
  try clear zf18_1
  try clear zf18_2
  try clear zf20_0
  try clear zf20_1
  try clear zf20_2
  try clear zf21_0
  try clear zf21_1
  try clear zf21_2
  try clear zf23_0
  try clear zf23_1
  try clear zf23_2
  try clear zf24_0
  try clear zf24_1
  try clear zf24_2
  try clear zf26_0
  try clear zf26_1
  try clear zf26_2
  try clear zf27_0
  try clear zf27_1
  try clear zf27_2
  try clear zf29_0
  try clear zf29_1
  try clear zf29_2
  try clear zf30_0
  try clear zf30_1
  try clear zf30_2
  obtain ⟨kq, x126_8, rfl, HA, HJ8, BK374, BK375, HB⟩ := hcut
  cases kq with
  | zero => exact absurd HA.out (by simp [lockgatelaw14_ValueOrders.j0])
  | succ kj8 =>
   have H := HA.out
   clear HA
   simp only [lockgatelaw14_ValueOrders.j0] at H
   by_cases c44 : x126_8 = true
   ·subst c44
    have H1 : (some false) = some r := by rw [if_pos rfl] at H; exact H
    clear H
    have H := H1
    clear H1
    exact absurd ((Option.some.inj H).trans HRT.out) (by decide)
   ·replace c44 := Bool.eq_false_iff.mpr c44
    subst c44
    have H1 : ((value_Compare.f kj8 1 true 2 a0 0 3 0 0 a1).bind fun bt388 => ((value_Compare.f kj8 10 false 2 a0 0 3 0 0 a1).bind fun bt390 => ((value_Compare.f kj8 10 true 2 a0 0 2 a0 0 a1).bind fun bt392 => (if bt388.2 = 21 then (if bt390.2 = 21 then (if bt392.2 = 21 then ((lockgatelaw14_works.f kj8).bind fun t394 => (some t394)) else (some false)) else (some false)) else (some false))))) = some r := by rw [if_neg (show ¬ (false = true) by decide)] at H; exact H
    clear H
    have H := H1
    clear H1
    replace H := Option.bind_eq_some_iff.mp H
    obtain ⟨⟨t388, t389⟩, A450, H⟩ := H
    replace H : ((value_Compare.f kj8 10 false 2 a0 0 3 0 0 a1).bind fun bt390 => ((value_Compare.f kj8 10 true 2 a0 0 2 a0 0 a1).bind fun bt392 => (if t389 = 21 then (if bt390.2 = 21 then (if bt392.2 = 21 then ((lockgatelaw14_works.f kj8).bind fun t394 => (some t394)) else (some false)) else (some false)) else (some false)))) = some r := H
    have A45 := Aside0.mk A450
    clear A450
    replace H := Option.bind_eq_some_iff.mp H
    obtain ⟨⟨t390, t391⟩, A460, H⟩ := H
    replace H : ((value_Compare.f kj8 10 true 2 a0 0 2 a0 0 a1).bind fun bt392 => (if t389 = 21 then (if t391 = 21 then (if bt392.2 = 21 then ((lockgatelaw14_works.f kj8).bind fun t394 => (some t394)) else (some false)) else (some false)) else (some false))) = some r := H
    have A46 := Aside0.mk A460
    clear A460
    replace H := Option.bind_eq_some_iff.mp H
    obtain ⟨⟨t392, t393⟩, A470, H⟩ := H
    replace H : (if t389 = 21 then (if t391 = 21 then (if t393 = 21 then ((lockgatelaw14_works.f kj8).bind fun t394 => (some t394)) else (some false)) else (some false)) else (some false)) = some r := H
    have A47 := Aside0.mk A470
    clear A470
    by_cases c48 : t389 = 21
    ·rw [if_pos c48] at H
     have c48b0 : (t389 == 21) = true := beq_iff_eq.mpr c48
     have c48b1 : (t389 != 21) = false := bne_eq_false_iff_eq.mpr c48
     clear c48
     by_cases c49 : t391 = 21
     ·rw [if_pos c49] at H
      have c49b0 : (t391 == 21) = true := beq_iff_eq.mpr c49
      have c49b1 : (t391 != 21) = false := bne_eq_false_iff_eq.mpr c49
      clear c49
      by_cases c50 : t393 = 21
      ·rw [if_pos c50] at H
       have c50b0 : (t393 == 21) = true := beq_iff_eq.mpr c50
       have c50b1 : (t393 != 21) = false := bne_eq_false_iff_eq.mpr c50
       clear c50
       replace H := Option.bind_eq_some_iff.mp H
       obtain ⟨t394, A510, H⟩ := H
       replace H : (some t394) = some r := H
       have A51 := Aside0.mk A510
       clear A510
       obtain rfl := Option.some.inj H
       have hnb52 := NB374_375.out
       have hnc52 := NB375_374.out
       obtain ⟨zc53_0, zc53_1, zc53_2, zf53_0, zf53_1, zf53_2⟩ := k3_ BK374
       obtain ⟨zc54_0, zc54_1, zc54_2, zf54_0, zf54_1, zf54_2⟩ := k3_ BK375
       go_wp2_with (first | ((with_reducible refine gate_callee (f := 20) rfl ?_); refine gM_ 131 Try.func20 (value_Compare.calls kj8 1 true 2 a0 0 3 0 0 a1 t388 t389 _ A45.out) ?_; intro w55 hb; replace BK374 := bb_ hb BK374; replace BK375 := bb_ hb BK375; replace HB := bl_ hb; (try clear hb); (try clear hb2); (try clear hk); (try clear hi); obtain ⟨zc56_0, zc56_1, zc56_2, zf56_0, zf56_1, zf56_2⟩ := k3_ BK374; obtain ⟨zc57_0, zc57_1, zc57_2, zf57_0, zf57_1, zf57_2⟩ := k3_ BK375) | ((with_reducible refine gate_callee (f := 20) rfl ?_); refine gM_ 138 Try.func20 (value_Compare.calls kj8 10 false 2 a0 0 3 0 0 a1 t390 t391 _ A46.out) ?_; intro w58 hb; replace BK374 := bb_ hb BK374; replace BK375 := bb_ hb BK375; replace HB := bl_ hb; (try clear hb); (try clear hb2); (try clear hk); (try clear hi); obtain ⟨zc59_0, zc59_1, zc59_2, zf59_0, zf59_1, zf59_2⟩ := k3_ BK374) | ((with_reducible refine gate_callee (f := 20) rfl ?_); refine gM_ 145 Try.func20 (value_Compare.calls kj8 10 true 2 a0 0 2 a0 0 a1 t392 t393 _ A47.out) ?_; intro w60 hb; replace BK374 := bb_ hb BK374; replace BK375 := bb_ hb BK375; replace HB := bl_ hb; (try clear hb); (try clear hb2); (try clear hk); (try clear hi)) | (go_at_call 19; (with_reducible refine (lockgatelaw14_works.calls kj8  t394 _ A51.out).mono ?_); rintro e w61 ⟨rfl, hb⟩; replace BK374 := bb_ hb BK374; replace BK375 := bb_ hb BK375; replace HB := bl_ hb; (try clear hb); (try clear hb2); (try clear hk); (try clear hi)))
       go_ret
       exact ⟨vv_, bz_⟩
      ·rw [if_neg c50] at H
       have c50b0 : (t393 == 21) = false := beq_eq_false_iff_ne.mpr c50
       have c50b1 : (t393 != 21) = true := bne_iff_ne.mpr c50
       exact absurd ((Option.some.inj H).trans HRT.out) (by decide)
     ·rw [if_neg c49] at H
      have c49b0 : (t391 == 21) = false := beq_eq_false_iff_ne.mpr c49
      have c49b1 : (t391 != 21) = true := bne_iff_ne.mpr c49
      exact absurd ((Option.some.inj H).trans HRT.out) (by decide)
    ·rw [if_neg c48] at H
     have c48b0 : (t389 == 21) = false := beq_eq_false_iff_ne.mpr c48
     have c48b1 : (t389 != 21) = true := bne_iff_ne.mpr c48
     exact absurd ((Option.some.inj H).trans HRT.out) (by decide)

end Go.Proofs.Ytnpbhippkcikoaa.PA
