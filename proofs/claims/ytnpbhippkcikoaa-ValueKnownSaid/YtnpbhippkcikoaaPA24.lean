-- PRINTED by print.py (a twelfth state) out of the translation. Not trusted: Lean checks it.
import Derived.Test.YtnpbhippkcikoaaWTab
import Derived.Test.YtnpbhippkcikoaaPA0
import Derived.Test.YtnpbhippkcikoaaSq
import Derived.Test.YtnpbhippkcikoaaPA1
import Derived.Test.YtnpbhippkcikoaaPA3
import Derived.Test.YtnpbhippkcikoaaPA4
import Derived.Test.YtnpbhippkcikoaaPA7
import Derived.Test.YtnpbhippkcikoaaPA20
namespace Go.Proofs.Ytnpbhippkcikoaa.PA
open Go.RowKit Go.Proofs.YtnpbhippkcikoaaW.PrintWords Go.Proofs.YtnpbhippkcikoaaW.PrintLast Go.Proofs.YtnpbhippkcikoaaW.PrintMore
attribute [local go_sem] max2_int min2_int max_two min_two max_three min_three max_four min_four   -- for this text's walks alone
set_option linter.unusedVariables false
set_option linter.unusedSimpArgs false

attribute [local go_sem high] eqA24
/-! ### lockgatelaw14_ValueBack: function 6 -/
def lockgatelaw14_ValueBack.f (k : Nat) (a0_0 : Int) (a0_1 : Int) (a0_2 : Int) (a1 : Int) (a2 : Int) : Option (Bool) := (value_Places.f a0_0 a0_1 a0_2).bind fun t323 => (if t323 = true then ((value_Num.f a1).bind fun bt333 => ((value_Alu.f k 0 true a0_0 a0_1 a0_2 bt333.1 bt333.2.1 bt333.2.2).bind fun bt336 => ((value_Num.f a1).bind fun bt341 => ((value_Alu.f k 0 true bt341.1 bt341.2.1 bt341.2.2 a0_0 a0_1 a0_2).bind fun bt344 => ((value_Num.f a1).bind fun bt349 => ((value_Alu.f k 1 true bt336.1 bt336.2.1 bt336.2.2.1 bt349.1 bt349.2.1 bt349.2.2).bind fun bt352 => ((value_Num.f a2).bind fun bt357 => ((value_Alu.f k 0 true bt336.1 bt336.2.1 bt336.2.2.1 bt357.1 bt357.2.1 bt357.2.2).bind fun bt360 => ((value_Num.f (IntKind.u64.wrap (a1 + a2))).bind fun bt365 => ((value_Alu.f k 0 true a0_0 a0_1 a0_2 bt365.1 bt365.2.1 bt365.2.2).bind fun bt368 => (if bt336.2.2.2 = 0 then (if bt344.2.2.2 = 0 then (if bt352.2.2.2 = 0 then (if bt360.2.2.2 = 0 then (if bt368.2.2.2 = 0 then (if (bt336.1 == bt344.1 && (bt336.2.1 == bt344.2.1 && (bt336.2.2.1 == bt344.2.2.1))) = true then (if (bt352.1 == a0_0 && (bt352.2.1 == a0_1 && (bt352.2.2.1 == a0_2))) = true then (if (bt360.1 == bt368.1 && (bt360.2.1 == bt368.2.1 && (bt360.2.2.1 == bt368.2.2.1))) = true then ((lockgatelaw14_works.f k).bind fun t373 => (some t373)) else (some false)) else (some false)) else (some false)) else (some false)) else (some false)) else (some false)) else (some false)) else (some false)))))))))))) else ((value_Num.f a1).bind fun bt324 => ((value_Alu.f k 1 true a0_0 a0_1 a0_2 bt324.1 bt324.2.1 bt324.2.2).bind fun bt327 => (if ((bt327.2.2.2 == 0) == (a0_0 == 1)) = true then ((lockgatelaw14_works.f k).bind fun t332 => (some t332)) else (some false)))))
theorem lockgatelaw14_ValueBack.mono : ∀ a0 a1 a2 a3 a4 k, LeO (lockgatelaw14_ValueBack.f k a0 a1 a2 a3 a4) (lockgatelaw14_ValueBack.f (k + 1) a0 a1 a2 a3 a4) := by
 intro a0 a1 a2 a3 a4 k
 unfold lockgatelaw14_ValueBack.f
 repeat' first
  | (with_reducible exact lockgatelaw14_works.mono _)
  | (with_reducible exact value_Alu.mono _ _ _ _ _ _ _ _ _)
  | (with_reducible exact LeO.refl _)
  | (with_reducible exact LeO.none _)
  | (with_reducible refine LeO.ite ?_ ?_)
  | (with_reducible refine LeO.bind ?_ (fun _ => ?_))
  | exact lockgatelaw14_works.mono _
  | exact value_Alu.mono _ _ _ _ _ _ _ _ _
  | exact LeO.none _
  | refine LeO.ite ?_ ?_
  | refine LeO.bind ?_ (fun _ => ?_)
def lockgatelaw14_ValueBack.T2 : Bool × List (List Nat × List Nat) := (true, [([], []), ([], []), ([1], [1]), ([0, 2, 2], [0, 2]), ([3], [3]), ([4], [4]), ([4], [4]), ([], []), ([7, 5, 3, 0, 1, 2, 3, 4, 5, 7], [5, 7]), ([6, 8, 0, 1, 2, 3, 4, 5, 6, 7, 8], [6])])
def lockgatelaw14_ValueBack.B2 : List Nat := [0, 0, 2, 7, 15, 31, 31, 0, 191, 511]
theorem lockgatelaw14_ValueBack.tab2 : rtab .any (opsOf Try.f6 2) = lockgatelaw14_ValueBack.T2 := by kernel_rfl
theorem lockgatelaw14_ValueBack.bits2 : waitsOk lockgatelaw14_ValueBack.T2.2 lockgatelaw14_ValueBack.B2 = true := by kernel_rfl
def lockgatelaw14_ValueBack.T4 : Bool × List (List Nat × List Nat) := (true, [([], []), ([], []), ([1], [1]), ([0, 2, 2], [0, 2]), ([3], [3]), ([4], [4]), ([4], [4]), ([], []), ([7, 5, 3, 0, 1, 2, 3, 4, 5, 7], [5, 7]), ([6, 8, 0, 1, 2, 3, 4, 5, 6, 7, 8], [6])])
def lockgatelaw14_ValueBack.B4 : List Nat := [0, 0, 2, 7, 15, 31, 31, 0, 191, 511]
theorem lockgatelaw14_ValueBack.tab4 : rtab .any (opsOf Try.f6 4) = lockgatelaw14_ValueBack.T4 := by kernel_rfl
theorem lockgatelaw14_ValueBack.bits4 : waitsOk lockgatelaw14_ValueBack.T4.2 lockgatelaw14_ValueBack.B4 = true := by kernel_rfl
def lockgatelaw14_ValueBack.T5 : Bool × List (List Nat × List Nat) := (true, [([], []), ([0], [0]), ([], []), ([1, 2, 1], [1, 2]), ([3], [3]), ([4], [4]), ([4], [4]), ([], []), ([7, 5, 3, 0, 1, 2, 3, 4, 5, 7], [5, 7]), ([6, 8, 0, 1, 2, 3, 4, 5, 6, 7, 8], [6])])
def lockgatelaw14_ValueBack.B5 : List Nat := [0, 1, 0, 7, 15, 31, 31, 0, 191, 511]
theorem lockgatelaw14_ValueBack.tab5 : rtab .any (opsOf Try.f6 5) = lockgatelaw14_ValueBack.T5 := by kernel_rfl
theorem lockgatelaw14_ValueBack.bits5 : waitsOk lockgatelaw14_ValueBack.T5.2 lockgatelaw14_ValueBack.B5 = true := by kernel_rfl
def lockgatelaw14_ValueBack.T6 : Bool × List (List Nat × List Nat) := (true, [([], []), ([], []), ([1], [1]), ([0, 2, 2], [0, 2]), ([3], [3]), ([4], [4]), ([4], [4]), ([], []), ([7, 5, 3, 0, 1, 2, 3, 4, 5, 7], [5, 7]), ([6, 8, 0, 1, 2, 3, 4, 5, 6, 7, 8], [6])])
def lockgatelaw14_ValueBack.B6 : List Nat := [0, 0, 2, 7, 15, 31, 31, 0, 191, 511]
theorem lockgatelaw14_ValueBack.tab6 : rtab .any (opsOf Try.f6 6) = lockgatelaw14_ValueBack.T6 := by kernel_rfl
theorem lockgatelaw14_ValueBack.bits6 : waitsOk lockgatelaw14_ValueBack.T6.2 lockgatelaw14_ValueBack.B6 = true := by kernel_rfl
def lockgatelaw14_ValueBack.T7 : Bool × List (List Nat × List Nat) := (true, [([], []), ([], []), ([1], [1]), ([0, 2, 2], [0, 2]), ([3], [3]), ([4], [4]), ([4], [4]), ([], []), ([7, 5, 3, 0, 1, 2, 3, 4, 5, 7], [5, 7]), ([6, 8, 0, 1, 2, 3, 4, 5, 6, 7, 8], [6])])
def lockgatelaw14_ValueBack.B7 : List Nat := [0, 0, 2, 7, 15, 31, 31, 0, 191, 511]
theorem lockgatelaw14_ValueBack.tab7 : rtab .any (opsOf Try.f6 7) = lockgatelaw14_ValueBack.T7 := by kernel_rfl
theorem lockgatelaw14_ValueBack.bits7 : waitsOk lockgatelaw14_ValueBack.T7.2 lockgatelaw14_ValueBack.B7 = true := by kernel_rfl
def lockgatelaw14_ValueBack.T8 : Bool × List (List Nat × List Nat) := (true, [([], []), ([], []), ([], []), ([1, 2], [1, 2]), ([3], [3]), ([0, 4, 4], [0, 4]), ([5], [5]), ([6], [6]), ([6], [6]), ([], []), ([9, 7, 5, 0, 1, 2, 3, 4, 5, 6, 7, 9], [7, 9]), ([8, 10, 0, 1, 2, 3, 4, 5, 6, 7, 8, 9, 10], [8])])
def lockgatelaw14_ValueBack.B8 : List Nat := [0, 0, 0, 6, 14, 31, 63, 127, 127, 0, 767, 2047]
theorem lockgatelaw14_ValueBack.tab8 : rtab .any (opsOf Try.f6 8) = lockgatelaw14_ValueBack.T8 := by kernel_rfl
theorem lockgatelaw14_ValueBack.bits8 : waitsOk lockgatelaw14_ValueBack.T8.2 lockgatelaw14_ValueBack.B8 = true := by kernel_rfl
set_option maxHeartbeats 8000000 in
set_option maxRecDepth 100000 in
theorem lockgatelaw14_ValueBack.calls (k : Nat) (a0_0 : Int) (a0_1 : Int) (a0_2 : Int) (a1 : Int) (a2 : Int) (r : Bool) (w : World) (HRT : Aside0 (r = true)) (h : lockgatelaw14_ValueBack.f k a0_0 a0_1 a0_2 a1 a2 = some r) :
 Calls Try.prog 6 #[.agg #[.int .i64 a0_0, .int .u64 a0_1, .int .i64 a0_2], .int .u64 a1, .int .u64 a2] w fun e w' => e = .returned (.bool r) ∧ Below w.heap.size w w' := by
 have hu24 := Try.underlying24
 have HB := Aside0.mk (Below.refl w.heap.size w)
 have H : ((value_Places.f a0_0 a0_1 a0_2).bind fun t323 => (if t323 = true then ((value_Num.f a1).bind fun bt333 => ((value_Alu.f k 0 true a0_0 a0_1 a0_2 bt333.1 bt333.2.1 bt333.2.2).bind fun bt336 => ((value_Num.f a1).bind fun bt341 => ((value_Alu.f k 0 true bt341.1 bt341.2.1 bt341.2.2 a0_0 a0_1 a0_2).bind fun bt344 => ((value_Num.f a1).bind fun bt349 => ((value_Alu.f k 1 true bt336.1 bt336.2.1 bt336.2.2.1 bt349.1 bt349.2.1 bt349.2.2).bind fun bt352 => ((value_Num.f a2).bind fun bt357 => ((value_Alu.f k 0 true bt336.1 bt336.2.1 bt336.2.2.1 bt357.1 bt357.2.1 bt357.2.2).bind fun bt360 => ((value_Num.f (IntKind.u64.wrap (a1 + a2))).bind fun bt365 => ((value_Alu.f k 0 true a0_0 a0_1 a0_2 bt365.1 bt365.2.1 bt365.2.2).bind fun bt368 => (if bt336.2.2.2 = 0 then (if bt344.2.2.2 = 0 then (if bt352.2.2.2 = 0 then (if bt360.2.2.2 = 0 then (if bt368.2.2.2 = 0 then (if (bt336.1 == bt344.1 && (bt336.2.1 == bt344.2.1 && (bt336.2.2.1 == bt344.2.2.1))) = true then (if (bt352.1 == a0_0 && (bt352.2.1 == a0_1 && (bt352.2.2.1 == a0_2))) = true then (if (bt360.1 == bt368.1 && (bt360.2.1 == bt368.2.1 && (bt360.2.2.1 == bt368.2.2.1))) = true then ((lockgatelaw14_works.f k).bind fun t373 => (some t373)) else (some false)) else (some false)) else (some false)) else (some false)) else (some false)) else (some false)) else (some false)) else (some false)))))))))))) else ((value_Num.f a1).bind fun bt324 => ((value_Alu.f k 1 true a0_0 a0_1 a0_2 bt324.1 bt324.2.1 bt324.2.2).bind fun bt327 => (if ((bt327.2.2.2 == 0) == (a0_0 == 1)) = true then ((lockgatelaw14_works.f k).bind fun t332 => (some t332)) else (some false)))))) = some r := h
 clear h
 replace H := Option.bind_eq_some_iff.mp H
 obtain ⟨t323, A40, H⟩ := H
 replace H : (if t323 = true then ((value_Num.f a1).bind fun bt333 => ((value_Alu.f k 0 true a0_0 a0_1 a0_2 bt333.1 bt333.2.1 bt333.2.2).bind fun bt336 => ((value_Num.f a1).bind fun bt341 => ((value_Alu.f k 0 true bt341.1 bt341.2.1 bt341.2.2 a0_0 a0_1 a0_2).bind fun bt344 => ((value_Num.f a1).bind fun bt349 => ((value_Alu.f k 1 true bt336.1 bt336.2.1 bt336.2.2.1 bt349.1 bt349.2.1 bt349.2.2).bind fun bt352 => ((value_Num.f a2).bind fun bt357 => ((value_Alu.f k 0 true bt336.1 bt336.2.1 bt336.2.2.1 bt357.1 bt357.2.1 bt357.2.2).bind fun bt360 => ((value_Num.f (IntKind.u64.wrap (a1 + a2))).bind fun bt365 => ((value_Alu.f k 0 true a0_0 a0_1 a0_2 bt365.1 bt365.2.1 bt365.2.2).bind fun bt368 => (if bt336.2.2.2 = 0 then (if bt344.2.2.2 = 0 then (if bt352.2.2.2 = 0 then (if bt360.2.2.2 = 0 then (if bt368.2.2.2 = 0 then (if (bt336.1 == bt344.1 && (bt336.2.1 == bt344.2.1 && (bt336.2.2.1 == bt344.2.2.1))) = true then (if (bt352.1 == a0_0 && (bt352.2.1 == a0_1 && (bt352.2.2.1 == a0_2))) = true then (if (bt360.1 == bt368.1 && (bt360.2.1 == bt368.2.1 && (bt360.2.2.1 == bt368.2.2.1))) = true then ((lockgatelaw14_works.f k).bind fun t373 => (some t373)) else (some false)) else (some false)) else (some false)) else (some false)) else (some false)) else (some false)) else (some false)) else (some false)))))))))))) else ((value_Num.f a1).bind fun bt324 => ((value_Alu.f k 1 true a0_0 a0_1 a0_2 bt324.1 bt324.2.1 bt324.2.2).bind fun bt327 => (if ((bt327.2.2.2 == 0) == (a0_0 == 1)) = true then ((lockgatelaw14_works.f k).bind fun t332 => (some t332)) else (some false))))) = some r := H
 have A4 := Aside0.mk A40
 clear A40
 by_cases c5 : t323 = true
 ·subst c5
  have H1 : ((value_Num.f a1).bind fun bt333 => ((value_Alu.f k 0 true a0_0 a0_1 a0_2 bt333.1 bt333.2.1 bt333.2.2).bind fun bt336 => ((value_Num.f a1).bind fun bt341 => ((value_Alu.f k 0 true bt341.1 bt341.2.1 bt341.2.2 a0_0 a0_1 a0_2).bind fun bt344 => ((value_Num.f a1).bind fun bt349 => ((value_Alu.f k 1 true bt336.1 bt336.2.1 bt336.2.2.1 bt349.1 bt349.2.1 bt349.2.2).bind fun bt352 => ((value_Num.f a2).bind fun bt357 => ((value_Alu.f k 0 true bt336.1 bt336.2.1 bt336.2.2.1 bt357.1 bt357.2.1 bt357.2.2).bind fun bt360 => ((value_Num.f (IntKind.u64.wrap (a1 + a2))).bind fun bt365 => ((value_Alu.f k 0 true a0_0 a0_1 a0_2 bt365.1 bt365.2.1 bt365.2.2).bind fun bt368 => (if bt336.2.2.2 = 0 then (if bt344.2.2.2 = 0 then (if bt352.2.2.2 = 0 then (if bt360.2.2.2 = 0 then (if bt368.2.2.2 = 0 then (if (bt336.1 == bt344.1 && (bt336.2.1 == bt344.2.1 && (bt336.2.2.1 == bt344.2.2.1))) = true then (if (bt352.1 == a0_0 && (bt352.2.1 == a0_1 && (bt352.2.2.1 == a0_2))) = true then (if (bt360.1 == bt368.1 && (bt360.2.1 == bt368.2.1 && (bt360.2.2.1 == bt368.2.2.1))) = true then ((lockgatelaw14_works.f k).bind fun t373 => (some t373)) else (some false)) else (some false)) else (some false)) else (some false)) else (some false)) else (some false)) else (some false)) else (some false)))))))))))) = some r := by rw [if_pos rfl] at H; exact H
  clear H
  have H := H1
  clear H1
  replace H := Option.bind_eq_some_iff.mp H
  obtain ⟨⟨t333, t334, t335⟩, A60, H⟩ := H
  replace H : ((value_Alu.f k 0 true a0_0 a0_1 a0_2 t333 t334 t335).bind fun bt336 => ((value_Num.f a1).bind fun bt341 => ((value_Alu.f k 0 true bt341.1 bt341.2.1 bt341.2.2 a0_0 a0_1 a0_2).bind fun bt344 => ((value_Num.f a1).bind fun bt349 => ((value_Alu.f k 1 true bt336.1 bt336.2.1 bt336.2.2.1 bt349.1 bt349.2.1 bt349.2.2).bind fun bt352 => ((value_Num.f a2).bind fun bt357 => ((value_Alu.f k 0 true bt336.1 bt336.2.1 bt336.2.2.1 bt357.1 bt357.2.1 bt357.2.2).bind fun bt360 => ((value_Num.f (IntKind.u64.wrap (a1 + a2))).bind fun bt365 => ((value_Alu.f k 0 true a0_0 a0_1 a0_2 bt365.1 bt365.2.1 bt365.2.2).bind fun bt368 => (if bt336.2.2.2 = 0 then (if bt344.2.2.2 = 0 then (if bt352.2.2.2 = 0 then (if bt360.2.2.2 = 0 then (if bt368.2.2.2 = 0 then (if (bt336.1 == bt344.1 && (bt336.2.1 == bt344.2.1 && (bt336.2.2.1 == bt344.2.2.1))) = true then (if (bt352.1 == a0_0 && (bt352.2.1 == a0_1 && (bt352.2.2.1 == a0_2))) = true then (if (bt360.1 == bt368.1 && (bt360.2.1 == bt368.2.1 && (bt360.2.2.1 == bt368.2.2.1))) = true then ((lockgatelaw14_works.f k).bind fun t373 => (some t373)) else (some false)) else (some false)) else (some false)) else (some false)) else (some false)) else (some false)) else (some false)) else (some false))))))))))) = some r := H
  have A6 := Aside0.mk A60
  clear A60
  replace H := Option.bind_eq_some_iff.mp H
  obtain ⟨⟨t336, t337, t338, t339⟩, A70, H⟩ := H
  replace H : ((value_Num.f a1).bind fun bt341 => ((value_Alu.f k 0 true bt341.1 bt341.2.1 bt341.2.2 a0_0 a0_1 a0_2).bind fun bt344 => ((value_Num.f a1).bind fun bt349 => ((value_Alu.f k 1 true t336 t337 t338 bt349.1 bt349.2.1 bt349.2.2).bind fun bt352 => ((value_Num.f a2).bind fun bt357 => ((value_Alu.f k 0 true t336 t337 t338 bt357.1 bt357.2.1 bt357.2.2).bind fun bt360 => ((value_Num.f (IntKind.u64.wrap (a1 + a2))).bind fun bt365 => ((value_Alu.f k 0 true a0_0 a0_1 a0_2 bt365.1 bt365.2.1 bt365.2.2).bind fun bt368 => (if t339 = 0 then (if bt344.2.2.2 = 0 then (if bt352.2.2.2 = 0 then (if bt360.2.2.2 = 0 then (if bt368.2.2.2 = 0 then (if (t336 == bt344.1 && (t337 == bt344.2.1 && (t338 == bt344.2.2.1))) = true then (if (bt352.1 == a0_0 && (bt352.2.1 == a0_1 && (bt352.2.2.1 == a0_2))) = true then (if (bt360.1 == bt368.1 && (bt360.2.1 == bt368.2.1 && (bt360.2.2.1 == bt368.2.2.1))) = true then ((lockgatelaw14_works.f k).bind fun t373 => (some t373)) else (some false)) else (some false)) else (some false)) else (some false)) else (some false)) else (some false)) else (some false)) else (some false)))))))))) = some r := H
  have A7 := Aside0.mk A70
  clear A70
  replace H := Option.bind_eq_some_iff.mp H
  obtain ⟨⟨t341, t342, t343⟩, A80, H⟩ := H
  replace H : ((value_Alu.f k 0 true t341 t342 t343 a0_0 a0_1 a0_2).bind fun bt344 => ((value_Num.f a1).bind fun bt349 => ((value_Alu.f k 1 true t336 t337 t338 bt349.1 bt349.2.1 bt349.2.2).bind fun bt352 => ((value_Num.f a2).bind fun bt357 => ((value_Alu.f k 0 true t336 t337 t338 bt357.1 bt357.2.1 bt357.2.2).bind fun bt360 => ((value_Num.f (IntKind.u64.wrap (a1 + a2))).bind fun bt365 => ((value_Alu.f k 0 true a0_0 a0_1 a0_2 bt365.1 bt365.2.1 bt365.2.2).bind fun bt368 => (if t339 = 0 then (if bt344.2.2.2 = 0 then (if bt352.2.2.2 = 0 then (if bt360.2.2.2 = 0 then (if bt368.2.2.2 = 0 then (if (t336 == bt344.1 && (t337 == bt344.2.1 && (t338 == bt344.2.2.1))) = true then (if (bt352.1 == a0_0 && (bt352.2.1 == a0_1 && (bt352.2.2.1 == a0_2))) = true then (if (bt360.1 == bt368.1 && (bt360.2.1 == bt368.2.1 && (bt360.2.2.1 == bt368.2.2.1))) = true then ((lockgatelaw14_works.f k).bind fun t373 => (some t373)) else (some false)) else (some false)) else (some false)) else (some false)) else (some false)) else (some false)) else (some false)) else (some false))))))))) = some r := H
  have A8 := Aside0.mk A80
  clear A80
  replace H := Option.bind_eq_some_iff.mp H
  obtain ⟨⟨t344, t345, t346, t347⟩, A90, H⟩ := H
  replace H : ((value_Num.f a1).bind fun bt349 => ((value_Alu.f k 1 true t336 t337 t338 bt349.1 bt349.2.1 bt349.2.2).bind fun bt352 => ((value_Num.f a2).bind fun bt357 => ((value_Alu.f k 0 true t336 t337 t338 bt357.1 bt357.2.1 bt357.2.2).bind fun bt360 => ((value_Num.f (IntKind.u64.wrap (a1 + a2))).bind fun bt365 => ((value_Alu.f k 0 true a0_0 a0_1 a0_2 bt365.1 bt365.2.1 bt365.2.2).bind fun bt368 => (if t339 = 0 then (if t347 = 0 then (if bt352.2.2.2 = 0 then (if bt360.2.2.2 = 0 then (if bt368.2.2.2 = 0 then (if (t336 == t344 && (t337 == t345 && (t338 == t346))) = true then (if (bt352.1 == a0_0 && (bt352.2.1 == a0_1 && (bt352.2.2.1 == a0_2))) = true then (if (bt360.1 == bt368.1 && (bt360.2.1 == bt368.2.1 && (bt360.2.2.1 == bt368.2.2.1))) = true then ((lockgatelaw14_works.f k).bind fun t373 => (some t373)) else (some false)) else (some false)) else (some false)) else (some false)) else (some false)) else (some false)) else (some false)) else (some false)))))))) = some r := H
  have A9 := Aside0.mk A90
  clear A90
  replace H := Option.bind_eq_some_iff.mp H
  obtain ⟨⟨t349, t350, t351⟩, A100, H⟩ := H
  replace H : ((value_Alu.f k 1 true t336 t337 t338 t349 t350 t351).bind fun bt352 => ((value_Num.f a2).bind fun bt357 => ((value_Alu.f k 0 true t336 t337 t338 bt357.1 bt357.2.1 bt357.2.2).bind fun bt360 => ((value_Num.f (IntKind.u64.wrap (a1 + a2))).bind fun bt365 => ((value_Alu.f k 0 true a0_0 a0_1 a0_2 bt365.1 bt365.2.1 bt365.2.2).bind fun bt368 => (if t339 = 0 then (if t347 = 0 then (if bt352.2.2.2 = 0 then (if bt360.2.2.2 = 0 then (if bt368.2.2.2 = 0 then (if (t336 == t344 && (t337 == t345 && (t338 == t346))) = true then (if (bt352.1 == a0_0 && (bt352.2.1 == a0_1 && (bt352.2.2.1 == a0_2))) = true then (if (bt360.1 == bt368.1 && (bt360.2.1 == bt368.2.1 && (bt360.2.2.1 == bt368.2.2.1))) = true then ((lockgatelaw14_works.f k).bind fun t373 => (some t373)) else (some false)) else (some false)) else (some false)) else (some false)) else (some false)) else (some false)) else (some false)) else (some false))))))) = some r := H
  have A10 := Aside0.mk A100
  clear A100
  have hdd_ : (t341, t342, t343) = (t349, t350, t351) := (Option.some.inj (A8.out.symm.trans A10.out))
  simp only [Prod.mk.injEq] at hdd_
  obtain ⟨rfl, rfl, rfl⟩ := hdd_
  replace H := Option.bind_eq_some_iff.mp H
  obtain ⟨⟨t352, t353, t354, t355⟩, A110, H⟩ := H
  replace H : ((value_Num.f a2).bind fun bt357 => ((value_Alu.f k 0 true t336 t337 t338 bt357.1 bt357.2.1 bt357.2.2).bind fun bt360 => ((value_Num.f (IntKind.u64.wrap (a1 + a2))).bind fun bt365 => ((value_Alu.f k 0 true a0_0 a0_1 a0_2 bt365.1 bt365.2.1 bt365.2.2).bind fun bt368 => (if t339 = 0 then (if t347 = 0 then (if t355 = 0 then (if bt360.2.2.2 = 0 then (if bt368.2.2.2 = 0 then (if (t336 == t344 && (t337 == t345 && (t338 == t346))) = true then (if (t352 == a0_0 && (t353 == a0_1 && (t354 == a0_2))) = true then (if (bt360.1 == bt368.1 && (bt360.2.1 == bt368.2.1 && (bt360.2.2.1 == bt368.2.2.1))) = true then ((lockgatelaw14_works.f k).bind fun t373 => (some t373)) else (some false)) else (some false)) else (some false)) else (some false)) else (some false)) else (some false)) else (some false)) else (some false)))))) = some r := H
  have A11 := Aside0.mk A110
  clear A110
  replace H := Option.bind_eq_some_iff.mp H
  obtain ⟨⟨t357, t358, t359⟩, A120, H⟩ := H
  replace H : ((value_Alu.f k 0 true t336 t337 t338 t357 t358 t359).bind fun bt360 => ((value_Num.f (IntKind.u64.wrap (a1 + a2))).bind fun bt365 => ((value_Alu.f k 0 true a0_0 a0_1 a0_2 bt365.1 bt365.2.1 bt365.2.2).bind fun bt368 => (if t339 = 0 then (if t347 = 0 then (if t355 = 0 then (if bt360.2.2.2 = 0 then (if bt368.2.2.2 = 0 then (if (t336 == t344 && (t337 == t345 && (t338 == t346))) = true then (if (t352 == a0_0 && (t353 == a0_1 && (t354 == a0_2))) = true then (if (bt360.1 == bt368.1 && (bt360.2.1 == bt368.2.1 && (bt360.2.2.1 == bt368.2.2.1))) = true then ((lockgatelaw14_works.f k).bind fun t373 => (some t373)) else (some false)) else (some false)) else (some false)) else (some false)) else (some false)) else (some false)) else (some false)) else (some false))))) = some r := H
  have A12 := Aside0.mk A120
  clear A120
  replace H := Option.bind_eq_some_iff.mp H
  obtain ⟨⟨t360, t361, t362, t363⟩, A130, H⟩ := H
  replace H : ((value_Num.f (IntKind.u64.wrap (a1 + a2))).bind fun bt365 => ((value_Alu.f k 0 true a0_0 a0_1 a0_2 bt365.1 bt365.2.1 bt365.2.2).bind fun bt368 => (if t339 = 0 then (if t347 = 0 then (if t355 = 0 then (if t363 = 0 then (if bt368.2.2.2 = 0 then (if (t336 == t344 && (t337 == t345 && (t338 == t346))) = true then (if (t352 == a0_0 && (t353 == a0_1 && (t354 == a0_2))) = true then (if (t360 == bt368.1 && (t361 == bt368.2.1 && (t362 == bt368.2.2.1))) = true then ((lockgatelaw14_works.f k).bind fun t373 => (some t373)) else (some false)) else (some false)) else (some false)) else (some false)) else (some false)) else (some false)) else (some false)) else (some false)))) = some r := H
  have A13 := Aside0.mk A130
  clear A130
  replace H := Option.bind_eq_some_iff.mp H
  obtain ⟨⟨t365, t366, t367⟩, A140, H⟩ := H
  replace H : ((value_Alu.f k 0 true a0_0 a0_1 a0_2 t365 t366 t367).bind fun bt368 => (if t339 = 0 then (if t347 = 0 then (if t355 = 0 then (if t363 = 0 then (if bt368.2.2.2 = 0 then (if (t336 == t344 && (t337 == t345 && (t338 == t346))) = true then (if (t352 == a0_0 && (t353 == a0_1 && (t354 == a0_2))) = true then (if (t360 == bt368.1 && (t361 == bt368.2.1 && (t362 == bt368.2.2.1))) = true then ((lockgatelaw14_works.f k).bind fun t373 => (some t373)) else (some false)) else (some false)) else (some false)) else (some false)) else (some false)) else (some false)) else (some false)) else (some false))) = some r := H
  have A14 := Aside0.mk A140
  clear A140
  replace H := Option.bind_eq_some_iff.mp H
  obtain ⟨⟨t368, t369, t370, t371⟩, A150, H⟩ := H
  replace H : (if t339 = 0 then (if t347 = 0 then (if t355 = 0 then (if t363 = 0 then (if t371 = 0 then (if (t336 == t344 && (t337 == t345 && (t338 == t346))) = true then (if (t352 == a0_0 && (t353 == a0_1 && (t354 == a0_2))) = true then (if (t360 == t368 && (t361 == t369 && (t362 == t370))) = true then ((lockgatelaw14_works.f k).bind fun t373 => (some t373)) else (some false)) else (some false)) else (some false)) else (some false)) else (some false)) else (some false)) else (some false)) else (some false)) = some r := H
  have A15 := Aside0.mk A150
  clear A150
  by_cases c16 : t339 = 0
  ·rw [if_pos c16] at H
   have c16b0 : (t339 == 0) = true := beq_iff_eq.mpr c16
   have c16b1 : (t339 != 0) = false := bne_eq_false_iff_eq.mpr c16
   clear c16
   by_cases c17 : t347 = 0
   ·rw [if_pos c17] at H
    have c17b0 : (t347 == 0) = true := beq_iff_eq.mpr c17
    have c17b1 : (t347 != 0) = false := bne_eq_false_iff_eq.mpr c17
    clear c17
    by_cases c18 : t355 = 0
    ·rw [if_pos c18] at H
     have c18b0 : (t355 == 0) = true := beq_iff_eq.mpr c18
     have c18b1 : (t355 != 0) = false := bne_eq_false_iff_eq.mpr c18
     clear c18
     by_cases c19 : t363 = 0
     ·rw [if_pos c19] at H
      have c19b0 : (t363 == 0) = true := beq_iff_eq.mpr c19
      have c19b1 : (t363 != 0) = false := bne_eq_false_iff_eq.mpr c19
      clear c19
      by_cases c20 : t371 = 0
      ·rw [if_pos c20] at H
       have c20b0 : (t371 == 0) = true := beq_iff_eq.mpr c20
       have c20b1 : (t371 != 0) = false := bne_eq_false_iff_eq.mpr c20
       clear c20
       by_cases c21 : (t336 == t344 && (t337 == t345 && (t338 == t346))) = true
       ·rw [if_pos c21] at H
        have c21b0 : (t336 == t344 && (t337 == t345 && (t338 == t346))) = true := c21
        (try (have c21b1 : decide (t336 = t344 && (t337 == t345 && (t338 == t346))) = true := by simpa using c21))
        (try (have c21b2 : (t336 == t344 && (t337 == t345 && (t338 == t346))) = true := by simpa using c21))
        clear c21
        by_cases c22 : (t352 == a0_0 && (t353 == a0_1 && (t354 == a0_2))) = true
        ·rw [if_pos c22] at H
         have c22b0 : (t352 == a0_0 && (t353 == a0_1 && (t354 == a0_2))) = true := c22
         (try (have c22b1 : decide (t352 = a0_0 && (t353 == a0_1 && (t354 == a0_2))) = true := by simpa using c22))
         (try (have c22b2 : (t352 == a0_0 && (t353 == a0_1 && (t354 == a0_2))) = true := by simpa using c22))
         clear c22
         by_cases c23 : (t360 == t368 && (t361 == t369 && (t362 == t370))) = true
         ·rw [if_pos c23] at H
          have c23b0 : (t360 == t368 && (t361 == t369 && (t362 == t370))) = true := c23
          (try (have c23b1 : decide (t360 = t368 && (t361 == t369 && (t362 == t370))) = true := by simpa using c23))
          (try (have c23b2 : (t360 == t368 && (t361 == t369 && (t362 == t370))) = true := by simpa using c23))
          clear c23
          replace H := Option.bind_eq_some_iff.mp H
          obtain ⟨t373, A240, H⟩ := H
          replace H : (some t373) = some r := H
          have A24 := Aside0.mk A240
          clear A240
          obtain rfl := Option.some.inj H
          go_enter Try.func6, Try.ntmps6
          try go_wp2_with (first | ((with_reducible refine gate_dst (N := 3) rfl ?_); refine bx_ 3 #[.int .i64 a0_0, .int .u64 a0_1, .int .i64 a0_2] 24 ?_; intro gb322 hg w25 BK322 hb; have GW322 := bg_ hg; have GE322 := GW322; replace HB := bl_ hb; clear hb hg; obtain ⟨zc26_0, zc26_1, zc26_2, zf26_0, zf26_1, zf26_2⟩ := k3_ BK322) | ((with_reducible refine gate_callee (f := 13) rfl ?_); refine gM_ 20 Try.func13 (value_Places.calls a0_0 a0_1 a0_2 true _ A4.out) ?_; intro w27 hb; replace BK322 := bb_ hb BK322; replace HB := bl_ hb; (try clear hb); (try clear hb2); (try clear hk); (try clear hi)))
          replace BK322 := Aside0.mk (blk_drew BK322.out)
          replace HB := Aside0.mk (below_drew1 HB.out)
          refine start_ (n := 10) (S := fun w' => w'.cell? ⟨gb322, 0, none⟩ = some (.int .i64 a0_0) ∧ w'.cell? ⟨gb322, 1, none⟩ = some (.int .u64 a0_1) ∧ w'.cell? ⟨gb322, 2, none⟩ = some (.int .i64 a0_2)) (ds := []) #[n_,n_,n_,n_,n_,n_,n_,n_,n_,n_] (by kernel_rfl) rfl rfl ⟨c0_ BK322, c1_ BK322, c2_ BK322⟩ (fun hHeld => ?_); refine with_tabW lockgatelaw14_ValueBack.tab4 lockgatelaw14_ValueBack.bits4 (fun HT_ HW_ => ?_)
          generalize w27.drew = w28 at BK322 HB hHeld ⊢
          refine pq_ 1 40 #[n_,y_,n_,n_,n_,n_,n_,n_,n_,n_] ?_
          refine tq2_ 0 39 #[y_,y_,n_,n_,n_,n_,n_,n_,n_,n_] hHeld ?_
          refine join_ (σ := Nat) 2 #[y_,y_,y_,y_,y_,y_,y_,y_,n_,n_] (fun s_ => [(41, .agg #[.int .i64 t333, .int .u64 t334, .int .i64 t335]), (42, .tuple #[.agg #[.int .i64 t336, .int .u64 t337, .int .i64 t338], .int .i64 t339]), (9, .pointer (some ⟨s_, 0, none⟩)), (38, .tuple #[.agg #[.int .i64 t336, .int .u64 t337, .int .i64 t338], .int .i64 t339]), (43, .agg #[.int .i64 t336, .int .u64 t337, .int .i64 t338]), (44, .int .i64 t339)]) (fun s_ w' => (w'.cell? ⟨gb322, 0, none⟩ = some (.int .i64 a0_0) ∧ w'.cell? ⟨gb322, 1, none⟩ = some (.int .u64 a0_1) ∧ w'.cell? ⟨gb322, 2, none⟩ = some (.int .i64 a0_2)) ∧ (w'.heap[gb322]? = some (.cells #[.int .i64 a0_0, .int .u64 a0_1, .int .i64 a0_2] 24 (0, 0))) ∧ (w'.heap[s_]? = some (.cells #[.int .i64 0, .int .u64 0, .int .i64 0] 24 (0, 0))) ∧ (w.heap.size ≤ s_) ∧ (w.heap.size ≤ s_) ∧ (gb322 ≠ s_) ∧ (s_ ≠ gb322) ∧ (Below w.heap.size w w')) ?_ ?_
          rotate_left
          ·intro hCont
           refine two_ (i := 2) (j := 7) (Ni := some 41) (Nj := some 9) #[y_,y_,y_,n_,n_,n_,n_,n_,n_,n_] #[y_,y_,n_,n_,n_,n_,n_,y_,n_,n_] rfl rfl rfl rfl (two_of HT_.out (by kernel_rfl)) (by decide) (by decide) (fun K hK => ?_) (fun K hK => ?_)
           ·skip
            refine goes_ Try.func15 (by kernel_rfl) rfl #[.int .u64 a1] (by rfl) rfl rfl mp_ ?_
            with_reducible refine (value_Num.calls a1 t333 t334 t335 _ A6.out).mono ?_
            rintro e w29 ⟨rfl, hb⟩
            refine ⟨_, rfl, ?_⟩
            replace BK322 := bb_ hb BK322
            replace HB := bl_ hb
            try clear hb
            refine hK.out _ _ ⟨c0_ BK322, c1_ BK322, c2_ BK322⟩ (fun hHeld => ?_)
            clear hK K
            refine norm_ (a' := ?_) ?_ ?_
            rotate_left
            ·show Act.put _ (some 41) _ = _
             simp only [Act.put, s1_, s2_, s3_, i64_w, i32_w]
             rfl
            refine two_ (i := 3) (j := 7) (Ni := some 42) (Nj := some 9) #[y_,y_,y_,y_,n_,n_,n_,n_,n_,n_] #[y_,y_,y_,n_,n_,n_,n_,y_,n_,n_] rfl rfl rfl rfl (two_of HT_.out (by kernel_rfl)) (by decide) (by decide) (fun K hK => ?_) (fun K hK => ?_)
            ·skip
             refine goes_ Try.func11 (by kernel_rfl) rfl #[.int .i64 0, .bool true, .agg #[.int .i64 a0_0, .int .u64 a0_1, .int .i64 a0_2], .agg #[.int .i64 t333, .int .u64 t334, .int .i64 t335]] (by rfl) rfl rfl mp_ ?_
             with_reducible refine (value_Alu.calls k 0 true a0_0 a0_1 a0_2 t333 t334 t335 t336 t337 t338 t339 _ A7.out).mono ?_
             rintro e w30 ⟨rfl, hb⟩
             refine ⟨_, rfl, ?_⟩
             replace BK322 := bb_ hb BK322
             replace HB := bl_ hb
             try clear hb
             refine hK.out _ _ ⟨c0_ BK322, c1_ BK322, c2_ BK322⟩ (fun hHeld => ?_)
             clear hK K
             refine norm_ (a' := ?_) ?_ ?_
             rotate_left
             ·show Act.put _ (some 42) _ = _
              simp only [Act.put, s1_, s2_, s3_, i64_w, i32_w]
              rfl
             refine pq_ 4 38 #[y_,y_,y_,y_,y_,n_,n_,n_,n_,n_] ?_
             refine pq_ 5 43 #[y_,y_,y_,y_,y_,y_,n_,n_,n_,n_] ?_
             refine pq_ 6 44 #[y_,y_,y_,y_,y_,y_,y_,n_,n_,n_] ?_
             refine one_ (i := 7) (N := some 9) #[y_,y_,y_,y_,y_,y_,y_,y_,n_,n_] rfl rfl (one_of HT_.out (by kernel_rfl)) (by decide) (fun K hK => ?_)
             refine box_step ?hg (N := 9) ?hd (cs := #[.int .i64 0, .int .u64 0, .int .i64 0]) (t := 24) ?hr ?_; (case hd => rfl); (case hg => rfl); (case hr => first | (go_simp; done) | (go_simp; rfl))
             intro gb340 hg w31 hbox hb
             have BK340 := Aside0.mk (hbox)
             have GW340 := bg_ hg
             have GE340 := GW340
             have NB322_340 := bm_ hg BK322
             have NB340_322 := bn_ hg BK322
             replace BK322 := bb_ hb BK322
             replace HB := bl_ hb
             clear hb hbox hg
             refine hK.out _ _ ⟨c0_ BK322, c1_ BK322, c2_ BK322⟩ (fun hHeld => ?_)
             clear hK K
             refine norm_ (a' := ?_) ?_ ?_
             rotate_left
             ·show Act.put _ (some 9) _ = _
              simp only [Act.put, s1_, s2_, s3_, i64_w, i32_w]
              rfl
             exact norm_ (by simp only [putAll, Act.put, List.setIfInBounds_toArray, List.set_cons_zero, List.set_cons_succ]) (hCont (gb340) _ ⟨hHeld, bk_, bk_, GW340.out, GE340.out, NB322_340.out, NB340_322.out, bz_⟩)
            ·skip
             refine box_step ?hg (N := 9) ?hd (cs := #[.int .i64 0, .int .u64 0, .int .i64 0]) (t := 24) ?hr ?_; (case hd => rfl); (case hg => rfl); (case hr => first | (go_simp; done) | (go_simp; rfl))
             intro gb340 hg w30 hbox hb
             have BK340 := Aside0.mk (hbox)
             have GW340 := bg_ hg
             have GE340 := GW340
             have NB322_340 := bm_ hg BK322
             have NB340_322 := bn_ hg BK322
             replace BK322 := bb_ hb BK322
             replace HB := bl_ hb
             clear hb hbox hg
             refine hK.out _ _ ⟨c0_ BK322, c1_ BK322, c2_ BK322⟩ (fun hHeld => ?_)
             clear hK K
             refine norm_ (a' := ?_) ?_ ?_
             rotate_left
             ·show Act.put _ (some 9) _ = _
              simp only [Act.put, s1_, s2_, s3_, i64_w, i32_w]
              rfl
             refine one_ (i := 3) (N := some 42) #[y_,y_,y_,y_,n_,n_,n_,y_,n_,n_] rfl rfl (one_of HT_.out (by kernel_rfl)) (by decide) (fun K hK => ?_)
             refine goes_ Try.func11 (by kernel_rfl) rfl #[.int .i64 0, .bool true, .agg #[.int .i64 a0_0, .int .u64 a0_1, .int .i64 a0_2], .agg #[.int .i64 t333, .int .u64 t334, .int .i64 t335]] (by rfl) rfl rfl mp_ ?_
             with_reducible refine (value_Alu.calls k 0 true a0_0 a0_1 a0_2 t333 t334 t335 t336 t337 t338 t339 _ A7.out).mono ?_
             rintro e w31 ⟨rfl, hb⟩
             refine ⟨_, rfl, ?_⟩
             replace BK322 := bb_ hb BK322
             replace BK340 := bb_ hb BK340
             replace HB := bl_ hb
             try clear hb
             refine hK.out _ _ ⟨c0_ BK322, c1_ BK322, c2_ BK322⟩ (fun hHeld => ?_)
             clear hK K
             refine norm_ (a' := ?_) ?_ ?_
             rotate_left
             ·show Act.put _ (some 42) _ = _
              simp only [Act.put, s1_, s2_, s3_, i64_w, i32_w]
              rfl
             refine pq_ 4 38 #[y_,y_,y_,y_,y_,n_,n_,y_,n_,n_] ?_
             refine pq_ 5 43 #[y_,y_,y_,y_,y_,y_,n_,y_,n_,n_] ?_
             refine pq_ 6 44 #[y_,y_,y_,y_,y_,y_,y_,y_,n_,n_] ?_
             exact norm_ (by simp only [putAll, Act.put, List.setIfInBounds_toArray, List.set_cons_zero, List.set_cons_succ]) (hCont (gb340) _ ⟨hHeld, bk_, bk_, GW340.out, GE340.out, NB322_340.out, NB340_322.out, bz_⟩)
           ·skip
            refine box_step ?hg (N := 9) ?hd (cs := #[.int .i64 0, .int .u64 0, .int .i64 0]) (t := 24) ?hr ?_; (case hd => rfl); (case hg => rfl); (case hr => first | (go_simp; done) | (go_simp; rfl))
            intro gb340 hg w29 hbox hb
            have BK340 := Aside0.mk (hbox)
            have GW340 := bg_ hg
            have GE340 := GW340
            have NB322_340 := bm_ hg BK322
            have NB340_322 := bn_ hg BK322
            replace BK322 := bb_ hb BK322
            replace HB := bl_ hb
            clear hb hbox hg
            refine hK.out _ _ ⟨c0_ BK322, c1_ BK322, c2_ BK322⟩ (fun hHeld => ?_)
            clear hK K
            refine norm_ (a' := ?_) ?_ ?_
            rotate_left
            ·show Act.put _ (some 9) _ = _
             simp only [Act.put, s1_, s2_, s3_, i64_w, i32_w]
             rfl
            refine one_ (i := 2) (N := some 41) #[y_,y_,y_,n_,n_,n_,n_,y_,n_,n_] rfl rfl (one_of HT_.out (by kernel_rfl)) (by decide) (fun K hK => ?_)
            refine goes_ Try.func15 (by kernel_rfl) rfl #[.int .u64 a1] (by rfl) rfl rfl mp_ ?_
            with_reducible refine (value_Num.calls a1 t333 t334 t335 _ A6.out).mono ?_
            rintro e w30 ⟨rfl, hb⟩
            refine ⟨_, rfl, ?_⟩
            replace BK322 := bb_ hb BK322
            replace BK340 := bb_ hb BK340
            replace HB := bl_ hb
            try clear hb
            refine hK.out _ _ ⟨c0_ BK322, c1_ BK322, c2_ BK322⟩ (fun hHeld => ?_)
            clear hK K
            refine norm_ (a' := ?_) ?_ ?_
            rotate_left
            ·show Act.put _ (some 41) _ = _
             simp only [Act.put, s1_, s2_, s3_, i64_w, i32_w]
             rfl
            refine one_ (i := 3) (N := some 42) #[y_,y_,y_,y_,n_,n_,n_,y_,n_,n_] rfl rfl (one_of HT_.out (by kernel_rfl)) (by decide) (fun K hK => ?_)
            refine goes_ Try.func11 (by kernel_rfl) rfl #[.int .i64 0, .bool true, .agg #[.int .i64 a0_0, .int .u64 a0_1, .int .i64 a0_2], .agg #[.int .i64 t333, .int .u64 t334, .int .i64 t335]] (by rfl) rfl rfl mp_ ?_
            with_reducible refine (value_Alu.calls k 0 true a0_0 a0_1 a0_2 t333 t334 t335 t336 t337 t338 t339 _ A7.out).mono ?_
            rintro e w31 ⟨rfl, hb⟩
            refine ⟨_, rfl, ?_⟩
            replace BK322 := bb_ hb BK322
            replace BK340 := bb_ hb BK340
            replace HB := bl_ hb
            try clear hb
            refine hK.out _ _ ⟨c0_ BK322, c1_ BK322, c2_ BK322⟩ (fun hHeld => ?_)
            clear hK K
            refine norm_ (a' := ?_) ?_ ?_
            rotate_left
            ·show Act.put _ (some 42) _ = _
             simp only [Act.put, s1_, s2_, s3_, i64_w, i32_w]
             rfl
            refine pq_ 4 38 #[y_,y_,y_,y_,y_,n_,n_,y_,n_,n_] ?_
            refine pq_ 5 43 #[y_,y_,y_,y_,y_,y_,n_,y_,n_,n_] ?_
            refine pq_ 6 44 #[y_,y_,y_,y_,y_,y_,y_,y_,n_,n_] ?_
            exact norm_ (by simp only [putAll, Act.put, List.setIfInBounds_toArray, List.set_cons_zero, List.set_cons_succ]) (hCont (gb340) _ ⟨hHeld, bk_, bk_, GW340.out, GE340.out, NB322_340.out, NB340_322.out, bz_⟩)
          rintro gb340 w32 ⟨hS_, h0_, h1_, h2_, h3_, h4_, h5_, h6_⟩
          have n0_ : Aside0 (w32.heap[gb322]? = some (.cells #[.int .i64 a0_0, .int .u64 a0_1, .int .i64 a0_2] 24 (0, 0))) := ⟨h0_⟩
          have n1_ : Aside0 (w32.heap[gb340]? = some (.cells #[.int .i64 0, .int .u64 0, .int .i64 0] 24 (0, 0))) := ⟨h1_⟩
          have n2_ : Aside0 (w.heap.size ≤ gb340) := ⟨h2_⟩
          have n3_ : Aside0 (w.heap.size ≤ gb340) := ⟨h3_⟩
          have n4_ : Aside0 (gb322 ≠ gb340) := ⟨h4_⟩
          have n5_ : Aside0 (gb340 ≠ gb322) := ⟨h5_⟩
          have n6_ : Aside0 (Below w.heap.size w w32) := ⟨h6_⟩
          clear BK322
          clear HB
          clear h0_ h1_ h2_ h3_ h4_ h5_ h6_
          have BK322 := n0_
          have BK340 := n1_
          have GW340 := n2_
          have GE340 := n3_
          have NB322_340 := n4_
          have NB340_322 := n5_
          have HB := n6_
          clear n0_ n1_ n2_ n3_ n4_ n5_ n6_
          have hHeld : w32.cell? ⟨gb322, 0, none⟩ = some (.int .i64 a0_0) ∧ w32.cell? ⟨gb322, 1, none⟩ = some (.int .u64 a0_1) ∧ w32.cell? ⟨gb322, 2, none⟩ = some (.int .i64 a0_2) := hS_
          refine norm_ (a' := ?_) ?_ ?_
          rotate_left
          ·simp only [putAll, Act.put, List.setIfInBounds_toArray, List.set_cons_zero, List.set_cons_succ]
           rfl
          refine one_ (i := 8) (N := none) #[y_,y_,y_,y_,y_,y_,y_,y_,y_,n_] rfl rfl (one_of HT_.out (by kernel_rfl)) (by decide) (fun K hK => ?_)
          obtain ⟨hs33, hfs33⟩ := k1_ BK340
          have hns33_0 := NB322_340.out
          have hms33_0 := NB340_322.out
          have hs34 := c1_ BK340
          have hfs34 := fz_ BK340 1
          have hns34_0 := NB322_340.out
          have hms34_0 := NB340_322.out
          have hs35 := c2_ BK340
          have hfs35 := fz_ BK340 2
          have hns35_0 := NB322_340.out
          have hms35_0 := NB340_322.out
          refine skip_ (w1 := ?_) (by rfl) rfl ?_ ?_
          rotate_left
          ·go_simp
           rfl
          refine hK.out _ _ ⟨((cell_far (p := ⟨gb340, _, none⟩) NB322_340.out _).trans (((cell_far (p := ⟨gb340, _, none⟩) NB322_340.out _).trans (((cell_far (p := ⟨gb340, _, none⟩) NB322_340.out _).trans (hHeld.1)))))), ((cell_far (p := ⟨gb340, _, none⟩) NB322_340.out _).trans (((cell_far (p := ⟨gb340, _, none⟩) NB322_340.out _).trans (((cell_far (p := ⟨gb340, _, none⟩) NB322_340.out _).trans (hHeld.2.1)))))), ((cell_far (p := ⟨gb340, _, none⟩) NB322_340.out _).trans (((cell_far (p := ⟨gb340, _, none⟩) NB322_340.out _).trans (((cell_far (p := ⟨gb340, _, none⟩) NB322_340.out _).trans (hHeld.2.2))))))⟩ (fun hHeld => ?_)
          clear hK K
          refine pq_ 9 10 #[y_,y_,y_,y_,y_,y_,y_,y_,y_,y_] ?_
          refine done_ (done_of HT_.out (by kernel_rfl)) ?_
          try go_wp2
          have n0_ : Aside0 ((((w32.setCell ⟨gb340, 0, none⟩ (.int .i64 t336)).setCell ⟨gb340, 1, none⟩ (.int .u64 t337)).setCell ⟨gb340, 2, none⟩ (.int .i64 t338)).heap[gb322]? = some (.cells #[.int .i64 a0_0, .int .u64 a0_1, .int .i64 a0_2] 24 (0, 0))) := ⟨by (with_reducible repeat (first | apply bN_ | apply bD_ | apply bA_)); refine blk_far ?_ NB322_340.out _; (with_reducible repeat (first | apply bN_ | apply bD_ | apply bA_)); refine blk_far ?_ NB322_340.out _; (with_reducible repeat (first | apply bN_ | apply bD_ | apply bA_)); refine blk_far ?_ NB322_340.out _; exact bk_⟩
          have n1_ : Aside0 ((((w32.setCell ⟨gb340, 0, none⟩ (.int .i64 t336)).setCell ⟨gb340, 1, none⟩ (.int .u64 t337)).setCell ⟨gb340, 2, none⟩ (.int .i64 t338)).heap[gb340]? = some (.cells #[.int .i64 t336, .int .u64 t337, .int .i64 t338] 24 (0, 0))) := ⟨by (with_reducible repeat (first | apply bN_ | apply bD_ | apply bA_)); refine blk_put (cs := #[.int .i64 t336, .int .u64 t337, .int .i64 0]) ?_ 2 _ rfl; (with_reducible repeat (first | apply bN_ | apply bD_ | apply bA_)); refine blk_put (cs := #[.int .i64 t336, .int .u64 0, .int .i64 0]) ?_ 1 _ rfl; (with_reducible repeat (first | apply bN_ | apply bD_ | apply bA_)); refine blk_put (cs := #[.int .i64 0, .int .u64 0, .int .i64 0]) ?_ 0 _ rfl; exact bk_⟩
          have n2_ : Aside0 (Below w.heap.size w (((w32.setCell ⟨gb340, 0, none⟩ (.int .i64 t336)).setCell ⟨gb340, 1, none⟩ (.int .u64 t337)).setCell ⟨gb340, 2, none⟩ (.int .i64 t338))) := ⟨bz_⟩
          (try clear BK322)
          (try clear BK340)
          (try clear HB)
          generalize (((w32.setCell ⟨gb340, 0, none⟩ (.int .i64 t336)).setCell ⟨gb340, 1, none⟩ (.int .u64 t337)).setCell ⟨gb340, 2, none⟩ (.int .i64 t338)) = w36 at n0_ n1_ n2_ ⊢
          have BK322 := n0_
          have BK340 := n1_
          have HB := n2_
          clear n0_ n1_ n2_
          replace BK322 := Aside0.mk (blk_drew BK322.out)
          replace BK340 := Aside0.mk (blk_drew BK340.out)
          replace HB := Aside0.mk (below_drew1 HB.out)
          refine start_ (n := 10) (S := fun w' => w'.cell? ⟨gb322, 0, none⟩ = some (.int .i64 a0_0) ∧ w'.cell? ⟨gb322, 1, none⟩ = some (.int .u64 a0_1) ∧ w'.cell? ⟨gb322, 2, none⟩ = some (.int .i64 a0_2)) (ds := []) #[n_,n_,n_,n_,n_,n_,n_,n_,n_,n_] (by kernel_rfl) rfl rfl ⟨c0_ BK322, c1_ BK322, c2_ BK322⟩ (fun hHeld => ?_); refine with_tabW lockgatelaw14_ValueBack.tab5 lockgatelaw14_ValueBack.bits5 (fun HT_ HW_ => ?_)
          generalize w36.drew = w37 at BK322 BK340 HB hHeld ⊢
          refine pq_ 0 46 #[y_,n_,n_,n_,n_,n_,n_,n_,n_,n_] ?_
          refine tq2_ 2 48 #[y_,n_,y_,n_,n_,n_,n_,n_,n_,n_] hHeld ?_
          refine join_ (σ := Nat) 2 #[y_,y_,y_,y_,y_,y_,y_,y_,n_,n_] (fun s_ => [(47, .agg #[.int .i64 t341, .int .u64 t342, .int .i64 t343]), (49, .tuple #[.agg #[.int .i64 t344, .int .u64 t345, .int .i64 t346], .int .i64 t347]), (11, .pointer (some ⟨s_, 0, none⟩)), (45, .tuple #[.agg #[.int .i64 t344, .int .u64 t345, .int .i64 t346], .int .i64 t347]), (50, .agg #[.int .i64 t344, .int .u64 t345, .int .i64 t346]), (51, .int .i64 t347)]) (fun s_ w' => (w'.cell? ⟨gb322, 0, none⟩ = some (.int .i64 a0_0) ∧ w'.cell? ⟨gb322, 1, none⟩ = some (.int .u64 a0_1) ∧ w'.cell? ⟨gb322, 2, none⟩ = some (.int .i64 a0_2)) ∧ (w'.heap[gb322]? = some (.cells #[.int .i64 a0_0, .int .u64 a0_1, .int .i64 a0_2] 24 (0, 0))) ∧ (w'.heap[gb340]? = some (.cells #[.int .i64 t336, .int .u64 t337, .int .i64 t338] 24 (0, 0))) ∧ (w'.heap[s_]? = some (.cells #[.int .i64 0, .int .u64 0, .int .i64 0] 24 (0, 0))) ∧ (w.heap.size ≤ s_) ∧ (w.heap.size ≤ s_) ∧ (gb322 ≠ s_) ∧ (s_ ≠ gb322) ∧ (gb340 ≠ s_) ∧ (s_ ≠ gb340) ∧ (Below w.heap.size w w')) ?_ ?_
          rotate_left
          ·intro hCont
           refine two_ (i := 1) (j := 7) (Ni := some 47) (Nj := some 11) #[y_,y_,y_,n_,n_,n_,n_,n_,n_,n_] #[y_,n_,y_,n_,n_,n_,n_,y_,n_,n_] rfl rfl rfl rfl (two_of HT_.out (by kernel_rfl)) (by decide) (by decide) (fun K hK => ?_) (fun K hK => ?_)
           ·skip
            refine goes_ Try.func15 (by kernel_rfl) rfl #[.int .u64 a1] (by rfl) rfl rfl mp_ ?_
            with_reducible refine (value_Num.calls a1 t341 t342 t343 _ A8.out).mono ?_
            rintro e w38 ⟨rfl, hb⟩
            refine ⟨_, rfl, ?_⟩
            replace BK322 := bb_ hb BK322
            replace BK340 := bb_ hb BK340
            replace HB := bl_ hb
            try clear hb
            refine hK.out _ _ ⟨c0_ BK322, c1_ BK322, c2_ BK322⟩ (fun hHeld => ?_)
            clear hK K
            refine norm_ (a' := ?_) ?_ ?_
            rotate_left
            ·show Act.put _ (some 47) _ = _
             simp only [Act.put, s1_, s2_, s3_, i64_w, i32_w]
             rfl
            refine two_ (i := 3) (j := 7) (Ni := some 49) (Nj := some 11) #[y_,y_,y_,y_,n_,n_,n_,n_,n_,n_] #[y_,y_,y_,n_,n_,n_,n_,y_,n_,n_] rfl rfl rfl rfl (two_of HT_.out (by kernel_rfl)) (by decide) (by decide) (fun K hK => ?_) (fun K hK => ?_)
            ·skip
             refine goes_ Try.func11 (by kernel_rfl) rfl #[.int .i64 0, .bool true, .agg #[.int .i64 t341, .int .u64 t342, .int .i64 t343], .agg #[.int .i64 a0_0, .int .u64 a0_1, .int .i64 a0_2]] (by rfl) rfl rfl mp_ ?_
             with_reducible refine (value_Alu.calls k 0 true t341 t342 t343 a0_0 a0_1 a0_2 t344 t345 t346 t347 _ A9.out).mono ?_
             rintro e w39 ⟨rfl, hb⟩
             refine ⟨_, rfl, ?_⟩
             replace BK322 := bb_ hb BK322
             replace BK340 := bb_ hb BK340
             replace HB := bl_ hb
             try clear hb
             refine hK.out _ _ ⟨c0_ BK322, c1_ BK322, c2_ BK322⟩ (fun hHeld => ?_)
             clear hK K
             refine norm_ (a' := ?_) ?_ ?_
             rotate_left
             ·show Act.put _ (some 49) _ = _
              simp only [Act.put, s1_, s2_, s3_, i64_w, i32_w]
              rfl
             refine pq_ 4 45 #[y_,y_,y_,y_,y_,n_,n_,n_,n_,n_] ?_
             refine pq_ 5 50 #[y_,y_,y_,y_,y_,y_,n_,n_,n_,n_] ?_
             refine pq_ 6 51 #[y_,y_,y_,y_,y_,y_,y_,n_,n_,n_] ?_
             refine one_ (i := 7) (N := some 11) #[y_,y_,y_,y_,y_,y_,y_,y_,n_,n_] rfl rfl (one_of HT_.out (by kernel_rfl)) (by decide) (fun K hK => ?_)
             refine box_step ?hg (N := 11) ?hd (cs := #[.int .i64 0, .int .u64 0, .int .i64 0]) (t := 24) ?hr ?_; (case hd => rfl); (case hg => rfl); (case hr => first | (go_simp; done) | (go_simp; rfl))
             intro gb348 hg w40 hbox hb
             have BK348 := Aside0.mk (hbox)
             have GW348 := bg_ hg
             have GE348 := GW348
             have NB322_348 := bm_ hg BK322
             have NB348_322 := bn_ hg BK322
             have NB340_348 := bm_ hg BK340
             have NB348_340 := bn_ hg BK340
             replace BK322 := bb_ hb BK322
             replace BK340 := bb_ hb BK340
             replace HB := bl_ hb
             clear hb hbox hg
             refine hK.out _ _ ⟨c0_ BK322, c1_ BK322, c2_ BK322⟩ (fun hHeld => ?_)
             clear hK K
             refine norm_ (a' := ?_) ?_ ?_
             rotate_left
             ·show Act.put _ (some 11) _ = _
              simp only [Act.put, s1_, s2_, s3_, i64_w, i32_w]
              rfl
             exact norm_ (by simp only [putAll, Act.put, List.setIfInBounds_toArray, List.set_cons_zero, List.set_cons_succ]) (hCont (gb348) _ ⟨hHeld, bk_, bk_, bk_, GW348.out, GE348.out, NB322_348.out, NB348_322.out, NB340_348.out, NB348_340.out, bz_⟩)
            ·skip
             refine box_step ?hg (N := 11) ?hd (cs := #[.int .i64 0, .int .u64 0, .int .i64 0]) (t := 24) ?hr ?_; (case hd => rfl); (case hg => rfl); (case hr => first | (go_simp; done) | (go_simp; rfl))
             intro gb348 hg w39 hbox hb
             have BK348 := Aside0.mk (hbox)
             have GW348 := bg_ hg
             have GE348 := GW348
             have NB322_348 := bm_ hg BK322
             have NB348_322 := bn_ hg BK322
             have NB340_348 := bm_ hg BK340
             have NB348_340 := bn_ hg BK340
             replace BK322 := bb_ hb BK322
             replace BK340 := bb_ hb BK340
             replace HB := bl_ hb
             clear hb hbox hg
             refine hK.out _ _ ⟨c0_ BK322, c1_ BK322, c2_ BK322⟩ (fun hHeld => ?_)
             clear hK K
             refine norm_ (a' := ?_) ?_ ?_
             rotate_left
             ·show Act.put _ (some 11) _ = _
              simp only [Act.put, s1_, s2_, s3_, i64_w, i32_w]
              rfl
             refine one_ (i := 3) (N := some 49) #[y_,y_,y_,y_,n_,n_,n_,y_,n_,n_] rfl rfl (one_of HT_.out (by kernel_rfl)) (by decide) (fun K hK => ?_)
             refine goes_ Try.func11 (by kernel_rfl) rfl #[.int .i64 0, .bool true, .agg #[.int .i64 t341, .int .u64 t342, .int .i64 t343], .agg #[.int .i64 a0_0, .int .u64 a0_1, .int .i64 a0_2]] (by rfl) rfl rfl mp_ ?_
             with_reducible refine (value_Alu.calls k 0 true t341 t342 t343 a0_0 a0_1 a0_2 t344 t345 t346 t347 _ A9.out).mono ?_
             rintro e w40 ⟨rfl, hb⟩
             refine ⟨_, rfl, ?_⟩
             replace BK322 := bb_ hb BK322
             replace BK340 := bb_ hb BK340
             replace BK348 := bb_ hb BK348
             replace HB := bl_ hb
             try clear hb
             refine hK.out _ _ ⟨c0_ BK322, c1_ BK322, c2_ BK322⟩ (fun hHeld => ?_)
             clear hK K
             refine norm_ (a' := ?_) ?_ ?_
             rotate_left
             ·show Act.put _ (some 49) _ = _
              simp only [Act.put, s1_, s2_, s3_, i64_w, i32_w]
              rfl
             refine pq_ 4 45 #[y_,y_,y_,y_,y_,n_,n_,y_,n_,n_] ?_
             refine pq_ 5 50 #[y_,y_,y_,y_,y_,y_,n_,y_,n_,n_] ?_
             refine pq_ 6 51 #[y_,y_,y_,y_,y_,y_,y_,y_,n_,n_] ?_
             exact norm_ (by simp only [putAll, Act.put, List.setIfInBounds_toArray, List.set_cons_zero, List.set_cons_succ]) (hCont (gb348) _ ⟨hHeld, bk_, bk_, bk_, GW348.out, GE348.out, NB322_348.out, NB348_322.out, NB340_348.out, NB348_340.out, bz_⟩)
           ·skip
            refine box_step ?hg (N := 11) ?hd (cs := #[.int .i64 0, .int .u64 0, .int .i64 0]) (t := 24) ?hr ?_; (case hd => rfl); (case hg => rfl); (case hr => first | (go_simp; done) | (go_simp; rfl))
            intro gb348 hg w38 hbox hb
            have BK348 := Aside0.mk (hbox)
            have GW348 := bg_ hg
            have GE348 := GW348
            have NB322_348 := bm_ hg BK322
            have NB348_322 := bn_ hg BK322
            have NB340_348 := bm_ hg BK340
            have NB348_340 := bn_ hg BK340
            replace BK322 := bb_ hb BK322
            replace BK340 := bb_ hb BK340
            replace HB := bl_ hb
            clear hb hbox hg
            refine hK.out _ _ ⟨c0_ BK322, c1_ BK322, c2_ BK322⟩ (fun hHeld => ?_)
            clear hK K
            refine norm_ (a' := ?_) ?_ ?_
            rotate_left
            ·show Act.put _ (some 11) _ = _
             simp only [Act.put, s1_, s2_, s3_, i64_w, i32_w]
             rfl
            refine one_ (i := 1) (N := some 47) #[y_,y_,y_,n_,n_,n_,n_,y_,n_,n_] rfl rfl (one_of HT_.out (by kernel_rfl)) (by decide) (fun K hK => ?_)
            refine goes_ Try.func15 (by kernel_rfl) rfl #[.int .u64 a1] (by rfl) rfl rfl mp_ ?_
            with_reducible refine (value_Num.calls a1 t341 t342 t343 _ A8.out).mono ?_
            rintro e w39 ⟨rfl, hb⟩
            refine ⟨_, rfl, ?_⟩
            replace BK322 := bb_ hb BK322
            replace BK340 := bb_ hb BK340
            replace BK348 := bb_ hb BK348
            replace HB := bl_ hb
            try clear hb
            refine hK.out _ _ ⟨c0_ BK322, c1_ BK322, c2_ BK322⟩ (fun hHeld => ?_)
            clear hK K
            refine norm_ (a' := ?_) ?_ ?_
            rotate_left
            ·show Act.put _ (some 47) _ = _
             simp only [Act.put, s1_, s2_, s3_, i64_w, i32_w]
             rfl
            refine one_ (i := 3) (N := some 49) #[y_,y_,y_,y_,n_,n_,n_,y_,n_,n_] rfl rfl (one_of HT_.out (by kernel_rfl)) (by decide) (fun K hK => ?_)
            refine goes_ Try.func11 (by kernel_rfl) rfl #[.int .i64 0, .bool true, .agg #[.int .i64 t341, .int .u64 t342, .int .i64 t343], .agg #[.int .i64 a0_0, .int .u64 a0_1, .int .i64 a0_2]] (by rfl) rfl rfl mp_ ?_
            with_reducible refine (value_Alu.calls k 0 true t341 t342 t343 a0_0 a0_1 a0_2 t344 t345 t346 t347 _ A9.out).mono ?_
            rintro e w40 ⟨rfl, hb⟩
            refine ⟨_, rfl, ?_⟩
            replace BK322 := bb_ hb BK322
            replace BK340 := bb_ hb BK340
            replace BK348 := bb_ hb BK348
            replace HB := bl_ hb
            try clear hb
            refine hK.out _ _ ⟨c0_ BK322, c1_ BK322, c2_ BK322⟩ (fun hHeld => ?_)
            clear hK K
            refine norm_ (a' := ?_) ?_ ?_
            rotate_left
            ·show Act.put _ (some 49) _ = _
             simp only [Act.put, s1_, s2_, s3_, i64_w, i32_w]
             rfl
            refine pq_ 4 45 #[y_,y_,y_,y_,y_,n_,n_,y_,n_,n_] ?_
            refine pq_ 5 50 #[y_,y_,y_,y_,y_,y_,n_,y_,n_,n_] ?_
            refine pq_ 6 51 #[y_,y_,y_,y_,y_,y_,y_,y_,n_,n_] ?_
            exact norm_ (by simp only [putAll, Act.put, List.setIfInBounds_toArray, List.set_cons_zero, List.set_cons_succ]) (hCont (gb348) _ ⟨hHeld, bk_, bk_, bk_, GW348.out, GE348.out, NB322_348.out, NB348_322.out, NB340_348.out, NB348_340.out, bz_⟩)
          rintro gb348 w41 ⟨hS_, h0_, h1_, h2_, h3_, h4_, h5_, h6_, h7_, h8_, h9_⟩
          have n0_ : Aside0 (w41.heap[gb322]? = some (.cells #[.int .i64 a0_0, .int .u64 a0_1, .int .i64 a0_2] 24 (0, 0))) := ⟨h0_⟩
          have n1_ : Aside0 (w41.heap[gb340]? = some (.cells #[.int .i64 t336, .int .u64 t337, .int .i64 t338] 24 (0, 0))) := ⟨h1_⟩
          have n2_ : Aside0 (w41.heap[gb348]? = some (.cells #[.int .i64 0, .int .u64 0, .int .i64 0] 24 (0, 0))) := ⟨h2_⟩
          have n3_ : Aside0 (w.heap.size ≤ gb348) := ⟨h3_⟩
          have n4_ : Aside0 (w.heap.size ≤ gb348) := ⟨h4_⟩
          have n5_ : Aside0 (gb322 ≠ gb348) := ⟨h5_⟩
          have n6_ : Aside0 (gb348 ≠ gb322) := ⟨h6_⟩
          have n7_ : Aside0 (gb340 ≠ gb348) := ⟨h7_⟩
          have n8_ : Aside0 (gb348 ≠ gb340) := ⟨h8_⟩
          have n9_ : Aside0 (Below w.heap.size w w41) := ⟨h9_⟩
          clear BK322
          clear BK340
          clear HB
          clear h0_ h1_ h2_ h3_ h4_ h5_ h6_ h7_ h8_ h9_
          have BK322 := n0_
          have BK340 := n1_
          have BK348 := n2_
          have GW348 := n3_
          have GE348 := n4_
          have NB322_348 := n5_
          have NB348_322 := n6_
          have NB340_348 := n7_
          have NB348_340 := n8_
          have HB := n9_
          clear n0_ n1_ n2_ n3_ n4_ n5_ n6_ n7_ n8_ n9_
          have hHeld : w41.cell? ⟨gb322, 0, none⟩ = some (.int .i64 a0_0) ∧ w41.cell? ⟨gb322, 1, none⟩ = some (.int .u64 a0_1) ∧ w41.cell? ⟨gb322, 2, none⟩ = some (.int .i64 a0_2) := hS_
          refine norm_ (a' := ?_) ?_ ?_
          rotate_left
          ·simp only [putAll, Act.put, List.setIfInBounds_toArray, List.set_cons_zero, List.set_cons_succ]
           rfl
          refine one_ (i := 8) (N := none) #[y_,y_,y_,y_,y_,y_,y_,y_,y_,n_] rfl rfl (one_of HT_.out (by kernel_rfl)) (by decide) (fun K hK => ?_)
          obtain ⟨hs42, hfs42⟩ := k1_ BK348
          have hns42_0 := NB322_348.out
          have hns42_1 := NB340_348.out
          have hms42_0 := NB348_322.out
          have hms42_1 := NB348_340.out
          have hs43 := c1_ BK348
          have hfs43 := fz_ BK348 1
          have hns43_0 := NB322_348.out
          have hns43_1 := NB340_348.out
          have hms43_0 := NB348_322.out
          have hms43_1 := NB348_340.out
          have hs44 := c2_ BK348
          have hfs44 := fz_ BK348 2
          have hns44_0 := NB322_348.out
          have hns44_1 := NB340_348.out
          have hms44_0 := NB348_322.out
          have hms44_1 := NB348_340.out
          refine skip_ (w1 := ?_) (by rfl) rfl ?_ ?_
          rotate_left
          ·go_simp
           rfl
          refine hK.out _ _ ⟨((cell_far (p := ⟨gb348, _, none⟩) NB322_348.out _).trans (((cell_far (p := ⟨gb348, _, none⟩) NB322_348.out _).trans (((cell_far (p := ⟨gb348, _, none⟩) NB322_348.out _).trans (hHeld.1)))))), ((cell_far (p := ⟨gb348, _, none⟩) NB322_348.out _).trans (((cell_far (p := ⟨gb348, _, none⟩) NB322_348.out _).trans (((cell_far (p := ⟨gb348, _, none⟩) NB322_348.out _).trans (hHeld.2.1)))))), ((cell_far (p := ⟨gb348, _, none⟩) NB322_348.out _).trans (((cell_far (p := ⟨gb348, _, none⟩) NB322_348.out _).trans (((cell_far (p := ⟨gb348, _, none⟩) NB322_348.out _).trans (hHeld.2.2))))))⟩ (fun hHeld => ?_)
          clear hK K
          refine pq_ 9 12 #[y_,y_,y_,y_,y_,y_,y_,y_,y_,y_] ?_
          refine done_ (done_of HT_.out (by kernel_rfl)) ?_
          try go_wp2
          have n0_ : Aside0 ((((w41.setCell ⟨gb348, 0, none⟩ (.int .i64 t344)).setCell ⟨gb348, 1, none⟩ (.int .u64 t345)).setCell ⟨gb348, 2, none⟩ (.int .i64 t346)).heap[gb322]? = some (.cells #[.int .i64 a0_0, .int .u64 a0_1, .int .i64 a0_2] 24 (0, 0))) := ⟨by (with_reducible repeat (first | apply bN_ | apply bD_ | apply bA_)); refine blk_far ?_ NB322_348.out _; (with_reducible repeat (first | apply bN_ | apply bD_ | apply bA_)); refine blk_far ?_ NB322_348.out _; (with_reducible repeat (first | apply bN_ | apply bD_ | apply bA_)); refine blk_far ?_ NB322_348.out _; exact bk_⟩
          have n1_ : Aside0 ((((w41.setCell ⟨gb348, 0, none⟩ (.int .i64 t344)).setCell ⟨gb348, 1, none⟩ (.int .u64 t345)).setCell ⟨gb348, 2, none⟩ (.int .i64 t346)).heap[gb340]? = some (.cells #[.int .i64 t336, .int .u64 t337, .int .i64 t338] 24 (0, 0))) := ⟨by (with_reducible repeat (first | apply bN_ | apply bD_ | apply bA_)); refine blk_far ?_ NB340_348.out _; (with_reducible repeat (first | apply bN_ | apply bD_ | apply bA_)); refine blk_far ?_ NB340_348.out _; (with_reducible repeat (first | apply bN_ | apply bD_ | apply bA_)); refine blk_far ?_ NB340_348.out _; exact bk_⟩
          have n2_ : Aside0 ((((w41.setCell ⟨gb348, 0, none⟩ (.int .i64 t344)).setCell ⟨gb348, 1, none⟩ (.int .u64 t345)).setCell ⟨gb348, 2, none⟩ (.int .i64 t346)).heap[gb348]? = some (.cells #[.int .i64 t344, .int .u64 t345, .int .i64 t346] 24 (0, 0))) := ⟨by (with_reducible repeat (first | apply bN_ | apply bD_ | apply bA_)); refine blk_put (cs := #[.int .i64 t344, .int .u64 t345, .int .i64 0]) ?_ 2 _ rfl; (with_reducible repeat (first | apply bN_ | apply bD_ | apply bA_)); refine blk_put (cs := #[.int .i64 t344, .int .u64 0, .int .i64 0]) ?_ 1 _ rfl; (with_reducible repeat (first | apply bN_ | apply bD_ | apply bA_)); refine blk_put (cs := #[.int .i64 0, .int .u64 0, .int .i64 0]) ?_ 0 _ rfl; exact bk_⟩
          have n3_ : Aside0 (Below w.heap.size w (((w41.setCell ⟨gb348, 0, none⟩ (.int .i64 t344)).setCell ⟨gb348, 1, none⟩ (.int .u64 t345)).setCell ⟨gb348, 2, none⟩ (.int .i64 t346))) := ⟨bz_⟩
          (try clear BK322)
          (try clear BK340)
          (try clear BK348)
          (try clear HB)
          generalize (((w41.setCell ⟨gb348, 0, none⟩ (.int .i64 t344)).setCell ⟨gb348, 1, none⟩ (.int .u64 t345)).setCell ⟨gb348, 2, none⟩ (.int .i64 t346)) = w45 at n0_ n1_ n2_ n3_ ⊢
          have BK322 := n0_
          have BK340 := n1_
          have BK348 := n2_
          have HB := n3_
          clear n0_ n1_ n2_ n3_
          replace BK322 := Aside0.mk (blk_drew BK322.out)
          replace BK340 := Aside0.mk (blk_drew BK340.out)
          replace BK348 := Aside0.mk (blk_drew BK348.out)
          replace HB := Aside0.mk (below_drew1 HB.out)
          refine start_ (n := 10) (S := fun w' => w'.cell? ⟨gb340, 0, none⟩ = some (.int .i64 t336) ∧ w'.cell? ⟨gb340, 1, none⟩ = some (.int .u64 t337) ∧ w'.cell? ⟨gb340, 2, none⟩ = some (.int .i64 t338)) (ds := []) #[n_,n_,n_,n_,n_,n_,n_,n_,n_,n_] (by kernel_rfl) rfl rfl ⟨c0_ BK340, c1_ BK340, c2_ BK340⟩ (fun hHeld => ?_); refine with_tabW lockgatelaw14_ValueBack.tab6 lockgatelaw14_ValueBack.bits6 (fun HT_ HW_ => ?_)
          generalize w45.drew = w46 at BK322 BK340 BK348 HB hHeld ⊢
          refine pq_ 1 54 #[n_,y_,n_,n_,n_,n_,n_,n_,n_,n_] ?_
          refine tq2_ 0 53 #[y_,y_,n_,n_,n_,n_,n_,n_,n_,n_] hHeld ?_
          refine join_ (σ := Nat) 2 #[y_,y_,y_,y_,y_,y_,y_,y_,n_,n_] (fun s_ => [(55, .agg #[.int .i64 t341, .int .u64 t342, .int .i64 t343]), (56, .tuple #[.agg #[.int .i64 t352, .int .u64 t353, .int .i64 t354], .int .i64 t355]), (13, .pointer (some ⟨s_, 0, none⟩)), (52, .tuple #[.agg #[.int .i64 t352, .int .u64 t353, .int .i64 t354], .int .i64 t355]), (57, .agg #[.int .i64 t352, .int .u64 t353, .int .i64 t354]), (58, .int .i64 t355)]) (fun s_ w' => (w'.cell? ⟨gb340, 0, none⟩ = some (.int .i64 t336) ∧ w'.cell? ⟨gb340, 1, none⟩ = some (.int .u64 t337) ∧ w'.cell? ⟨gb340, 2, none⟩ = some (.int .i64 t338)) ∧ (w'.heap[gb322]? = some (.cells #[.int .i64 a0_0, .int .u64 a0_1, .int .i64 a0_2] 24 (0, 0))) ∧ (w'.heap[gb340]? = some (.cells #[.int .i64 t336, .int .u64 t337, .int .i64 t338] 24 (0, 0))) ∧ (w'.heap[gb348]? = some (.cells #[.int .i64 t344, .int .u64 t345, .int .i64 t346] 24 (0, 0))) ∧ (w'.heap[s_]? = some (.cells #[.int .i64 0, .int .u64 0, .int .i64 0] 24 (0, 0))) ∧ (w.heap.size ≤ s_) ∧ (w.heap.size ≤ s_) ∧ (gb322 ≠ s_) ∧ (s_ ≠ gb322) ∧ (gb340 ≠ s_) ∧ (s_ ≠ gb340) ∧ (gb348 ≠ s_) ∧ (s_ ≠ gb348) ∧ (Below w.heap.size w w')) ?_ ?_
          rotate_left
          ·intro hCont
           refine two_ (i := 2) (j := 7) (Ni := some 55) (Nj := some 13) #[y_,y_,y_,n_,n_,n_,n_,n_,n_,n_] #[y_,y_,n_,n_,n_,n_,n_,y_,n_,n_] rfl rfl rfl rfl (two_of HT_.out (by kernel_rfl)) (by decide) (by decide) (fun K hK => ?_) (fun K hK => ?_)
           ·skip
            refine goes_ Try.func15 (by kernel_rfl) rfl #[.int .u64 a1] (by rfl) rfl rfl mp_ ?_
            with_reducible refine (value_Num.calls a1 t341 t342 t343 _ A10.out).mono ?_
            rintro e w47 ⟨rfl, hb⟩
            refine ⟨_, rfl, ?_⟩
            replace BK322 := bb_ hb BK322
            replace BK340 := bb_ hb BK340
            replace BK348 := bb_ hb BK348
            replace HB := bl_ hb
            try clear hb
            refine hK.out _ _ ⟨c0_ BK340, c1_ BK340, c2_ BK340⟩ (fun hHeld => ?_)
            clear hK K
            refine norm_ (a' := ?_) ?_ ?_
            rotate_left
            ·show Act.put _ (some 55) _ = _
             simp only [Act.put, s1_, s2_, s3_, i64_w, i32_w]
             rfl
            refine two_ (i := 3) (j := 7) (Ni := some 56) (Nj := some 13) #[y_,y_,y_,y_,n_,n_,n_,n_,n_,n_] #[y_,y_,y_,n_,n_,n_,n_,y_,n_,n_] rfl rfl rfl rfl (two_of HT_.out (by kernel_rfl)) (by decide) (by decide) (fun K hK => ?_) (fun K hK => ?_)
            ·skip
             refine goes_ Try.func11 (by kernel_rfl) rfl #[.int .i64 1, .bool true, .agg #[.int .i64 t336, .int .u64 t337, .int .i64 t338], .agg #[.int .i64 t341, .int .u64 t342, .int .i64 t343]] (by rfl) rfl rfl mp_ ?_
             with_reducible refine (value_Alu.calls k 1 true t336 t337 t338 t341 t342 t343 t352 t353 t354 t355 _ A11.out).mono ?_
             rintro e w48 ⟨rfl, hb⟩
             refine ⟨_, rfl, ?_⟩
             replace BK322 := bb_ hb BK322
             replace BK340 := bb_ hb BK340
             replace BK348 := bb_ hb BK348
             replace HB := bl_ hb
             try clear hb
             refine hK.out _ _ ⟨c0_ BK340, c1_ BK340, c2_ BK340⟩ (fun hHeld => ?_)
             clear hK K
             refine norm_ (a' := ?_) ?_ ?_
             rotate_left
             ·show Act.put _ (some 56) _ = _
              simp only [Act.put, s1_, s2_, s3_, i64_w, i32_w]
              rfl
             refine pq_ 4 52 #[y_,y_,y_,y_,y_,n_,n_,n_,n_,n_] ?_
             refine pq_ 5 57 #[y_,y_,y_,y_,y_,y_,n_,n_,n_,n_] ?_
             refine pq_ 6 58 #[y_,y_,y_,y_,y_,y_,y_,n_,n_,n_] ?_
             refine one_ (i := 7) (N := some 13) #[y_,y_,y_,y_,y_,y_,y_,y_,n_,n_] rfl rfl (one_of HT_.out (by kernel_rfl)) (by decide) (fun K hK => ?_)
             refine box_step ?hg (N := 13) ?hd (cs := #[.int .i64 0, .int .u64 0, .int .i64 0]) (t := 24) ?hr ?_; (case hd => rfl); (case hg => rfl); (case hr => first | (go_simp; done) | (go_simp; rfl))
             intro gb356 hg w49 hbox hb
             have BK356 := Aside0.mk (hbox)
             have GW356 := bg_ hg
             have GE356 := GW356
             have NB322_356 := bm_ hg BK322
             have NB356_322 := bn_ hg BK322
             have NB340_356 := bm_ hg BK340
             have NB356_340 := bn_ hg BK340
             have NB348_356 := bm_ hg BK348
             have NB356_348 := bn_ hg BK348
             replace BK322 := bb_ hb BK322
             replace BK340 := bb_ hb BK340
             replace BK348 := bb_ hb BK348
             replace HB := bl_ hb
             clear hb hbox hg
             refine hK.out _ _ ⟨c0_ BK340, c1_ BK340, c2_ BK340⟩ (fun hHeld => ?_)
             clear hK K
             refine norm_ (a' := ?_) ?_ ?_
             rotate_left
             ·show Act.put _ (some 13) _ = _
              simp only [Act.put, s1_, s2_, s3_, i64_w, i32_w]
              rfl
             exact norm_ (by simp only [putAll, Act.put, List.setIfInBounds_toArray, List.set_cons_zero, List.set_cons_succ]) (hCont (gb356) _ ⟨hHeld, bk_, bk_, bk_, bk_, GW356.out, GE356.out, NB322_356.out, NB356_322.out, NB340_356.out, NB356_340.out, NB348_356.out, NB356_348.out, bz_⟩)
            ·skip
             refine box_step ?hg (N := 13) ?hd (cs := #[.int .i64 0, .int .u64 0, .int .i64 0]) (t := 24) ?hr ?_; (case hd => rfl); (case hg => rfl); (case hr => first | (go_simp; done) | (go_simp; rfl))
             intro gb356 hg w48 hbox hb
             have BK356 := Aside0.mk (hbox)
             have GW356 := bg_ hg
             have GE356 := GW356
             have NB322_356 := bm_ hg BK322
             have NB356_322 := bn_ hg BK322
             have NB340_356 := bm_ hg BK340
             have NB356_340 := bn_ hg BK340
             have NB348_356 := bm_ hg BK348
             have NB356_348 := bn_ hg BK348
             replace BK322 := bb_ hb BK322
             replace BK340 := bb_ hb BK340
             replace BK348 := bb_ hb BK348
             replace HB := bl_ hb
             clear hb hbox hg
             refine hK.out _ _ ⟨c0_ BK340, c1_ BK340, c2_ BK340⟩ (fun hHeld => ?_)
             clear hK K
             refine norm_ (a' := ?_) ?_ ?_
             rotate_left
             ·show Act.put _ (some 13) _ = _
              simp only [Act.put, s1_, s2_, s3_, i64_w, i32_w]
              rfl
             refine one_ (i := 3) (N := some 56) #[y_,y_,y_,y_,n_,n_,n_,y_,n_,n_] rfl rfl (one_of HT_.out (by kernel_rfl)) (by decide) (fun K hK => ?_)
             refine goes_ Try.func11 (by kernel_rfl) rfl #[.int .i64 1, .bool true, .agg #[.int .i64 t336, .int .u64 t337, .int .i64 t338], .agg #[.int .i64 t341, .int .u64 t342, .int .i64 t343]] (by rfl) rfl rfl mp_ ?_
             with_reducible refine (value_Alu.calls k 1 true t336 t337 t338 t341 t342 t343 t352 t353 t354 t355 _ A11.out).mono ?_
             rintro e w49 ⟨rfl, hb⟩
             refine ⟨_, rfl, ?_⟩
             replace BK322 := bb_ hb BK322
             replace BK340 := bb_ hb BK340
             replace BK348 := bb_ hb BK348
             replace BK356 := bb_ hb BK356
             replace HB := bl_ hb
             try clear hb
             refine hK.out _ _ ⟨c0_ BK340, c1_ BK340, c2_ BK340⟩ (fun hHeld => ?_)
             clear hK K
             refine norm_ (a' := ?_) ?_ ?_
             rotate_left
             ·show Act.put _ (some 56) _ = _
              simp only [Act.put, s1_, s2_, s3_, i64_w, i32_w]
              rfl
             refine pq_ 4 52 #[y_,y_,y_,y_,y_,n_,n_,y_,n_,n_] ?_
             refine pq_ 5 57 #[y_,y_,y_,y_,y_,y_,n_,y_,n_,n_] ?_
             refine pq_ 6 58 #[y_,y_,y_,y_,y_,y_,y_,y_,n_,n_] ?_
             exact norm_ (by simp only [putAll, Act.put, List.setIfInBounds_toArray, List.set_cons_zero, List.set_cons_succ]) (hCont (gb356) _ ⟨hHeld, bk_, bk_, bk_, bk_, GW356.out, GE356.out, NB322_356.out, NB356_322.out, NB340_356.out, NB356_340.out, NB348_356.out, NB356_348.out, bz_⟩)
           ·skip
            refine box_step ?hg (N := 13) ?hd (cs := #[.int .i64 0, .int .u64 0, .int .i64 0]) (t := 24) ?hr ?_; (case hd => rfl); (case hg => rfl); (case hr => first | (go_simp; done) | (go_simp; rfl))
            intro gb356 hg w47 hbox hb
            have BK356 := Aside0.mk (hbox)
            have GW356 := bg_ hg
            have GE356 := GW356
            have NB322_356 := bm_ hg BK322
            have NB356_322 := bn_ hg BK322
            have NB340_356 := bm_ hg BK340
            have NB356_340 := bn_ hg BK340
            have NB348_356 := bm_ hg BK348
            have NB356_348 := bn_ hg BK348
            replace BK322 := bb_ hb BK322
            replace BK340 := bb_ hb BK340
            replace BK348 := bb_ hb BK348
            replace HB := bl_ hb
            clear hb hbox hg
            refine hK.out _ _ ⟨c0_ BK340, c1_ BK340, c2_ BK340⟩ (fun hHeld => ?_)
            clear hK K
            refine norm_ (a' := ?_) ?_ ?_
            rotate_left
            ·show Act.put _ (some 13) _ = _
             simp only [Act.put, s1_, s2_, s3_, i64_w, i32_w]
             rfl
            refine one_ (i := 2) (N := some 55) #[y_,y_,y_,n_,n_,n_,n_,y_,n_,n_] rfl rfl (one_of HT_.out (by kernel_rfl)) (by decide) (fun K hK => ?_)
            refine goes_ Try.func15 (by kernel_rfl) rfl #[.int .u64 a1] (by rfl) rfl rfl mp_ ?_
            with_reducible refine (value_Num.calls a1 t341 t342 t343 _ A10.out).mono ?_
            rintro e w48 ⟨rfl, hb⟩
            refine ⟨_, rfl, ?_⟩
            replace BK322 := bb_ hb BK322
            replace BK340 := bb_ hb BK340
            replace BK348 := bb_ hb BK348
            replace BK356 := bb_ hb BK356
            replace HB := bl_ hb
            try clear hb
            refine hK.out _ _ ⟨c0_ BK340, c1_ BK340, c2_ BK340⟩ (fun hHeld => ?_)
            clear hK K
            refine norm_ (a' := ?_) ?_ ?_
            rotate_left
            ·show Act.put _ (some 55) _ = _
             simp only [Act.put, s1_, s2_, s3_, i64_w, i32_w]
             rfl
            refine one_ (i := 3) (N := some 56) #[y_,y_,y_,y_,n_,n_,n_,y_,n_,n_] rfl rfl (one_of HT_.out (by kernel_rfl)) (by decide) (fun K hK => ?_)
            refine goes_ Try.func11 (by kernel_rfl) rfl #[.int .i64 1, .bool true, .agg #[.int .i64 t336, .int .u64 t337, .int .i64 t338], .agg #[.int .i64 t341, .int .u64 t342, .int .i64 t343]] (by rfl) rfl rfl mp_ ?_
            with_reducible refine (value_Alu.calls k 1 true t336 t337 t338 t341 t342 t343 t352 t353 t354 t355 _ A11.out).mono ?_
            rintro e w49 ⟨rfl, hb⟩
            refine ⟨_, rfl, ?_⟩
            replace BK322 := bb_ hb BK322
            replace BK340 := bb_ hb BK340
            replace BK348 := bb_ hb BK348
            replace BK356 := bb_ hb BK356
            replace HB := bl_ hb
            try clear hb
            refine hK.out _ _ ⟨c0_ BK340, c1_ BK340, c2_ BK340⟩ (fun hHeld => ?_)
            clear hK K
            refine norm_ (a' := ?_) ?_ ?_
            rotate_left
            ·show Act.put _ (some 56) _ = _
             simp only [Act.put, s1_, s2_, s3_, i64_w, i32_w]
             rfl
            refine pq_ 4 52 #[y_,y_,y_,y_,y_,n_,n_,y_,n_,n_] ?_
            refine pq_ 5 57 #[y_,y_,y_,y_,y_,y_,n_,y_,n_,n_] ?_
            refine pq_ 6 58 #[y_,y_,y_,y_,y_,y_,y_,y_,n_,n_] ?_
            exact norm_ (by simp only [putAll, Act.put, List.setIfInBounds_toArray, List.set_cons_zero, List.set_cons_succ]) (hCont (gb356) _ ⟨hHeld, bk_, bk_, bk_, bk_, GW356.out, GE356.out, NB322_356.out, NB356_322.out, NB340_356.out, NB356_340.out, NB348_356.out, NB356_348.out, bz_⟩)
          rintro gb356 w50 ⟨hS_, h0_, h1_, h2_, h3_, h4_, h5_, h6_, h7_, h8_, h9_, h10_, h11_, h12_⟩
          have n0_ : Aside0 (w50.heap[gb322]? = some (.cells #[.int .i64 a0_0, .int .u64 a0_1, .int .i64 a0_2] 24 (0, 0))) := ⟨h0_⟩
          have n1_ : Aside0 (w50.heap[gb340]? = some (.cells #[.int .i64 t336, .int .u64 t337, .int .i64 t338] 24 (0, 0))) := ⟨h1_⟩
          have n2_ : Aside0 (w50.heap[gb348]? = some (.cells #[.int .i64 t344, .int .u64 t345, .int .i64 t346] 24 (0, 0))) := ⟨h2_⟩
          have n3_ : Aside0 (w50.heap[gb356]? = some (.cells #[.int .i64 0, .int .u64 0, .int .i64 0] 24 (0, 0))) := ⟨h3_⟩
          have n4_ : Aside0 (w.heap.size ≤ gb356) := ⟨h4_⟩
          have n5_ : Aside0 (w.heap.size ≤ gb356) := ⟨h5_⟩
          have n6_ : Aside0 (gb322 ≠ gb356) := ⟨h6_⟩
          have n7_ : Aside0 (gb356 ≠ gb322) := ⟨h7_⟩
          have n8_ : Aside0 (gb340 ≠ gb356) := ⟨h8_⟩
          have n9_ : Aside0 (gb356 ≠ gb340) := ⟨h9_⟩
          have n10_ : Aside0 (gb348 ≠ gb356) := ⟨h10_⟩
          have n11_ : Aside0 (gb356 ≠ gb348) := ⟨h11_⟩
          have n12_ : Aside0 (Below w.heap.size w w50) := ⟨h12_⟩
          clear BK322
          clear BK340
          clear BK348
          clear HB
          clear h0_ h1_ h2_ h3_ h4_ h5_ h6_ h7_ h8_ h9_ h10_ h11_ h12_
          have BK322 := n0_
          have BK340 := n1_
          have BK348 := n2_
          have BK356 := n3_
          have GW356 := n4_
          have GE356 := n5_
          have NB322_356 := n6_
          have NB356_322 := n7_
          have NB340_356 := n8_
          have NB356_340 := n9_
          have NB348_356 := n10_
          have NB356_348 := n11_
          have HB := n12_
          clear n0_ n1_ n2_ n3_ n4_ n5_ n6_ n7_ n8_ n9_ n10_ n11_ n12_
          have hHeld : w50.cell? ⟨gb340, 0, none⟩ = some (.int .i64 t336) ∧ w50.cell? ⟨gb340, 1, none⟩ = some (.int .u64 t337) ∧ w50.cell? ⟨gb340, 2, none⟩ = some (.int .i64 t338) := hS_
          refine norm_ (a' := ?_) ?_ ?_
          rotate_left
          ·simp only [putAll, Act.put, List.setIfInBounds_toArray, List.set_cons_zero, List.set_cons_succ]
           rfl
          refine one_ (i := 8) (N := none) #[y_,y_,y_,y_,y_,y_,y_,y_,y_,n_] rfl rfl (one_of HT_.out (by kernel_rfl)) (by decide) (fun K hK => ?_)
          obtain ⟨hs51, hfs51⟩ := k1_ BK356
          have hns51_0 := NB322_356.out
          have hns51_1 := NB340_356.out
          have hns51_2 := NB348_356.out
          have hms51_0 := NB356_322.out
          have hms51_1 := NB356_340.out
          have hms51_2 := NB356_348.out
          have hs52 := c1_ BK356
          have hfs52 := fz_ BK356 1
          have hns52_0 := NB322_356.out
          have hns52_1 := NB340_356.out
          have hns52_2 := NB348_356.out
          have hms52_0 := NB356_322.out
          have hms52_1 := NB356_340.out
          have hms52_2 := NB356_348.out
          have hs53 := c2_ BK356
          have hfs53 := fz_ BK356 2
          have hns53_0 := NB322_356.out
          have hns53_1 := NB340_356.out
          have hns53_2 := NB348_356.out
          have hms53_0 := NB356_322.out
          have hms53_1 := NB356_340.out
          have hms53_2 := NB356_348.out
          refine skip_ (w1 := ?_) (by rfl) rfl ?_ ?_
          rotate_left
          ·go_simp
           rfl
          refine hK.out _ _ ⟨((cell_far (p := ⟨gb356, _, none⟩) NB340_356.out _).trans (((cell_far (p := ⟨gb356, _, none⟩) NB340_356.out _).trans (((cell_far (p := ⟨gb356, _, none⟩) NB340_356.out _).trans (hHeld.1)))))), ((cell_far (p := ⟨gb356, _, none⟩) NB340_356.out _).trans (((cell_far (p := ⟨gb356, _, none⟩) NB340_356.out _).trans (((cell_far (p := ⟨gb356, _, none⟩) NB340_356.out _).trans (hHeld.2.1)))))), ((cell_far (p := ⟨gb356, _, none⟩) NB340_356.out _).trans (((cell_far (p := ⟨gb356, _, none⟩) NB340_356.out _).trans (((cell_far (p := ⟨gb356, _, none⟩) NB340_356.out _).trans (hHeld.2.2))))))⟩ (fun hHeld => ?_)
          clear hK K
          refine pq_ 9 14 #[y_,y_,y_,y_,y_,y_,y_,y_,y_,y_] ?_
          refine done_ (done_of HT_.out (by kernel_rfl)) ?_
          try go_wp2
          have n0_ : Aside0 ((((w50.setCell ⟨gb356, 0, none⟩ (.int .i64 t352)).setCell ⟨gb356, 1, none⟩ (.int .u64 t353)).setCell ⟨gb356, 2, none⟩ (.int .i64 t354)).heap[gb322]? = some (.cells #[.int .i64 a0_0, .int .u64 a0_1, .int .i64 a0_2] 24 (0, 0))) := ⟨by (with_reducible repeat (first | apply bN_ | apply bD_ | apply bA_)); refine blk_far ?_ NB322_356.out _; (with_reducible repeat (first | apply bN_ | apply bD_ | apply bA_)); refine blk_far ?_ NB322_356.out _; (with_reducible repeat (first | apply bN_ | apply bD_ | apply bA_)); refine blk_far ?_ NB322_356.out _; exact bk_⟩
          have n1_ : Aside0 ((((w50.setCell ⟨gb356, 0, none⟩ (.int .i64 t352)).setCell ⟨gb356, 1, none⟩ (.int .u64 t353)).setCell ⟨gb356, 2, none⟩ (.int .i64 t354)).heap[gb340]? = some (.cells #[.int .i64 t336, .int .u64 t337, .int .i64 t338] 24 (0, 0))) := ⟨by (with_reducible repeat (first | apply bN_ | apply bD_ | apply bA_)); refine blk_far ?_ NB340_356.out _; (with_reducible repeat (first | apply bN_ | apply bD_ | apply bA_)); refine blk_far ?_ NB340_356.out _; (with_reducible repeat (first | apply bN_ | apply bD_ | apply bA_)); refine blk_far ?_ NB340_356.out _; exact bk_⟩
          have n2_ : Aside0 ((((w50.setCell ⟨gb356, 0, none⟩ (.int .i64 t352)).setCell ⟨gb356, 1, none⟩ (.int .u64 t353)).setCell ⟨gb356, 2, none⟩ (.int .i64 t354)).heap[gb348]? = some (.cells #[.int .i64 t344, .int .u64 t345, .int .i64 t346] 24 (0, 0))) := ⟨by (with_reducible repeat (first | apply bN_ | apply bD_ | apply bA_)); refine blk_far ?_ NB348_356.out _; (with_reducible repeat (first | apply bN_ | apply bD_ | apply bA_)); refine blk_far ?_ NB348_356.out _; (with_reducible repeat (first | apply bN_ | apply bD_ | apply bA_)); refine blk_far ?_ NB348_356.out _; exact bk_⟩
          have n3_ : Aside0 ((((w50.setCell ⟨gb356, 0, none⟩ (.int .i64 t352)).setCell ⟨gb356, 1, none⟩ (.int .u64 t353)).setCell ⟨gb356, 2, none⟩ (.int .i64 t354)).heap[gb356]? = some (.cells #[.int .i64 t352, .int .u64 t353, .int .i64 t354] 24 (0, 0))) := ⟨by (with_reducible repeat (first | apply bN_ | apply bD_ | apply bA_)); refine blk_put (cs := #[.int .i64 t352, .int .u64 t353, .int .i64 0]) ?_ 2 _ rfl; (with_reducible repeat (first | apply bN_ | apply bD_ | apply bA_)); refine blk_put (cs := #[.int .i64 t352, .int .u64 0, .int .i64 0]) ?_ 1 _ rfl; (with_reducible repeat (first | apply bN_ | apply bD_ | apply bA_)); refine blk_put (cs := #[.int .i64 0, .int .u64 0, .int .i64 0]) ?_ 0 _ rfl; exact bk_⟩
          have n4_ : Aside0 (Below w.heap.size w (((w50.setCell ⟨gb356, 0, none⟩ (.int .i64 t352)).setCell ⟨gb356, 1, none⟩ (.int .u64 t353)).setCell ⟨gb356, 2, none⟩ (.int .i64 t354))) := ⟨bz_⟩
          (try clear BK322)
          (try clear BK340)
          (try clear BK348)
          (try clear BK356)
          (try clear HB)
          generalize (((w50.setCell ⟨gb356, 0, none⟩ (.int .i64 t352)).setCell ⟨gb356, 1, none⟩ (.int .u64 t353)).setCell ⟨gb356, 2, none⟩ (.int .i64 t354)) = w54 at n0_ n1_ n2_ n3_ n4_ ⊢
          have BK322 := n0_
          have BK340 := n1_
          have BK348 := n2_
          have BK356 := n3_
          have HB := n4_
          clear n0_ n1_ n2_ n3_ n4_
          replace BK322 := Aside0.mk (blk_drew BK322.out)
          replace BK340 := Aside0.mk (blk_drew BK340.out)
          replace BK348 := Aside0.mk (blk_drew BK348.out)
          replace BK356 := Aside0.mk (blk_drew BK356.out)
          replace HB := Aside0.mk (below_drew1 HB.out)
          refine start_ (n := 10) (S := fun w' => w'.cell? ⟨gb340, 0, none⟩ = some (.int .i64 t336) ∧ w'.cell? ⟨gb340, 1, none⟩ = some (.int .u64 t337) ∧ w'.cell? ⟨gb340, 2, none⟩ = some (.int .i64 t338)) (ds := []) #[n_,n_,n_,n_,n_,n_,n_,n_,n_,n_] (by kernel_rfl) rfl rfl ⟨c0_ BK340, c1_ BK340, c2_ BK340⟩ (fun hHeld => ?_); refine with_tabW lockgatelaw14_ValueBack.tab7 lockgatelaw14_ValueBack.bits7 (fun HT_ HW_ => ?_)
          generalize w54.drew = w55 at BK322 BK340 BK348 BK356 HB hHeld ⊢
          refine pq_ 1 61 #[n_,y_,n_,n_,n_,n_,n_,n_,n_,n_] ?_
          refine tq2_ 0 60 #[y_,y_,n_,n_,n_,n_,n_,n_,n_,n_] hHeld ?_
          refine join_ (σ := Nat) 2 #[y_,y_,y_,y_,y_,y_,y_,y_,n_,n_] (fun s_ => [(62, .agg #[.int .i64 t357, .int .u64 t358, .int .i64 t359]), (63, .tuple #[.agg #[.int .i64 t360, .int .u64 t361, .int .i64 t362], .int .i64 t363]), (15, .pointer (some ⟨s_, 0, none⟩)), (59, .tuple #[.agg #[.int .i64 t360, .int .u64 t361, .int .i64 t362], .int .i64 t363]), (64, .agg #[.int .i64 t360, .int .u64 t361, .int .i64 t362]), (65, .int .i64 t363)]) (fun s_ w' => (w'.cell? ⟨gb340, 0, none⟩ = some (.int .i64 t336) ∧ w'.cell? ⟨gb340, 1, none⟩ = some (.int .u64 t337) ∧ w'.cell? ⟨gb340, 2, none⟩ = some (.int .i64 t338)) ∧ (w'.heap[gb322]? = some (.cells #[.int .i64 a0_0, .int .u64 a0_1, .int .i64 a0_2] 24 (0, 0))) ∧ (w'.heap[gb340]? = some (.cells #[.int .i64 t336, .int .u64 t337, .int .i64 t338] 24 (0, 0))) ∧ (w'.heap[gb348]? = some (.cells #[.int .i64 t344, .int .u64 t345, .int .i64 t346] 24 (0, 0))) ∧ (w'.heap[gb356]? = some (.cells #[.int .i64 t352, .int .u64 t353, .int .i64 t354] 24 (0, 0))) ∧ (w'.heap[s_]? = some (.cells #[.int .i64 0, .int .u64 0, .int .i64 0] 24 (0, 0))) ∧ (w.heap.size ≤ s_) ∧ (w.heap.size ≤ s_) ∧ (gb322 ≠ s_) ∧ (s_ ≠ gb322) ∧ (gb340 ≠ s_) ∧ (s_ ≠ gb340) ∧ (gb348 ≠ s_) ∧ (s_ ≠ gb348) ∧ (gb356 ≠ s_) ∧ (s_ ≠ gb356) ∧ (Below w.heap.size w w')) ?_ ?_
          rotate_left
          ·intro hCont
           refine two_ (i := 2) (j := 7) (Ni := some 62) (Nj := some 15) #[y_,y_,y_,n_,n_,n_,n_,n_,n_,n_] #[y_,y_,n_,n_,n_,n_,n_,y_,n_,n_] rfl rfl rfl rfl (two_of HT_.out (by kernel_rfl)) (by decide) (by decide) (fun K hK => ?_) (fun K hK => ?_)
           ·skip
            refine goes_ Try.func15 (by kernel_rfl) rfl #[.int .u64 a2] (by rfl) rfl rfl mp_ ?_
            with_reducible refine (value_Num.calls a2 t357 t358 t359 _ A12.out).mono ?_
            rintro e w56 ⟨rfl, hb⟩
            refine ⟨_, rfl, ?_⟩
            replace BK322 := bb_ hb BK322
            replace BK340 := bb_ hb BK340
            replace BK348 := bb_ hb BK348
            replace BK356 := bb_ hb BK356
            replace HB := bl_ hb
            try clear hb
            refine hK.out _ _ ⟨c0_ BK340, c1_ BK340, c2_ BK340⟩ (fun hHeld => ?_)
            clear hK K
            refine norm_ (a' := ?_) ?_ ?_
            rotate_left
            ·show Act.put _ (some 62) _ = _
             simp only [Act.put, s1_, s2_, s3_, i64_w, i32_w]
             rfl
            refine two_ (i := 3) (j := 7) (Ni := some 63) (Nj := some 15) #[y_,y_,y_,y_,n_,n_,n_,n_,n_,n_] #[y_,y_,y_,n_,n_,n_,n_,y_,n_,n_] rfl rfl rfl rfl (two_of HT_.out (by kernel_rfl)) (by decide) (by decide) (fun K hK => ?_) (fun K hK => ?_)
            ·skip
             refine goes_ Try.func11 (by kernel_rfl) rfl #[.int .i64 0, .bool true, .agg #[.int .i64 t336, .int .u64 t337, .int .i64 t338], .agg #[.int .i64 t357, .int .u64 t358, .int .i64 t359]] (by rfl) rfl rfl mp_ ?_
             with_reducible refine (value_Alu.calls k 0 true t336 t337 t338 t357 t358 t359 t360 t361 t362 t363 _ A13.out).mono ?_
             rintro e w57 ⟨rfl, hb⟩
             refine ⟨_, rfl, ?_⟩
             replace BK322 := bb_ hb BK322
             replace BK340 := bb_ hb BK340
             replace BK348 := bb_ hb BK348
             replace BK356 := bb_ hb BK356
             replace HB := bl_ hb
             try clear hb
             refine hK.out _ _ ⟨c0_ BK340, c1_ BK340, c2_ BK340⟩ (fun hHeld => ?_)
             clear hK K
             refine norm_ (a' := ?_) ?_ ?_
             rotate_left
             ·show Act.put _ (some 63) _ = _
              simp only [Act.put, s1_, s2_, s3_, i64_w, i32_w]
              rfl
             refine pq_ 4 59 #[y_,y_,y_,y_,y_,n_,n_,n_,n_,n_] ?_
             refine pq_ 5 64 #[y_,y_,y_,y_,y_,y_,n_,n_,n_,n_] ?_
             refine pq_ 6 65 #[y_,y_,y_,y_,y_,y_,y_,n_,n_,n_] ?_
             refine one_ (i := 7) (N := some 15) #[y_,y_,y_,y_,y_,y_,y_,y_,n_,n_] rfl rfl (one_of HT_.out (by kernel_rfl)) (by decide) (fun K hK => ?_)
             refine box_step ?hg (N := 15) ?hd (cs := #[.int .i64 0, .int .u64 0, .int .i64 0]) (t := 24) ?hr ?_; (case hd => rfl); (case hg => rfl); (case hr => first | (go_simp; done) | (go_simp; rfl))
             intro gb364 hg w58 hbox hb
             have BK364 := Aside0.mk (hbox)
             have GW364 := bg_ hg
             have GE364 := GW364
             have NB322_364 := bm_ hg BK322
             have NB364_322 := bn_ hg BK322
             have NB340_364 := bm_ hg BK340
             have NB364_340 := bn_ hg BK340
             have NB348_364 := bm_ hg BK348
             have NB364_348 := bn_ hg BK348
             have NB356_364 := bm_ hg BK356
             have NB364_356 := bn_ hg BK356
             replace BK322 := bb_ hb BK322
             replace BK340 := bb_ hb BK340
             replace BK348 := bb_ hb BK348
             replace BK356 := bb_ hb BK356
             replace HB := bl_ hb
             clear hb hbox hg
             refine hK.out _ _ ⟨c0_ BK340, c1_ BK340, c2_ BK340⟩ (fun hHeld => ?_)
             clear hK K
             refine norm_ (a' := ?_) ?_ ?_
             rotate_left
             ·show Act.put _ (some 15) _ = _
              simp only [Act.put, s1_, s2_, s3_, i64_w, i32_w]
              rfl
             exact norm_ (by simp only [putAll, Act.put, List.setIfInBounds_toArray, List.set_cons_zero, List.set_cons_succ]) (hCont (gb364) _ ⟨hHeld, bk_, bk_, bk_, bk_, bk_, GW364.out, GE364.out, NB322_364.out, NB364_322.out, NB340_364.out, NB364_340.out, NB348_364.out, NB364_348.out, NB356_364.out, NB364_356.out, bz_⟩)
            ·skip
             refine box_step ?hg (N := 15) ?hd (cs := #[.int .i64 0, .int .u64 0, .int .i64 0]) (t := 24) ?hr ?_; (case hd => rfl); (case hg => rfl); (case hr => first | (go_simp; done) | (go_simp; rfl))
             intro gb364 hg w57 hbox hb
             have BK364 := Aside0.mk (hbox)
             have GW364 := bg_ hg
             have GE364 := GW364
             have NB322_364 := bm_ hg BK322
             have NB364_322 := bn_ hg BK322
             have NB340_364 := bm_ hg BK340
             have NB364_340 := bn_ hg BK340
             have NB348_364 := bm_ hg BK348
             have NB364_348 := bn_ hg BK348
             have NB356_364 := bm_ hg BK356
             have NB364_356 := bn_ hg BK356
             replace BK322 := bb_ hb BK322
             replace BK340 := bb_ hb BK340
             replace BK348 := bb_ hb BK348
             replace BK356 := bb_ hb BK356
             replace HB := bl_ hb
             clear hb hbox hg
             refine hK.out _ _ ⟨c0_ BK340, c1_ BK340, c2_ BK340⟩ (fun hHeld => ?_)
             clear hK K
             refine norm_ (a' := ?_) ?_ ?_
             rotate_left
             ·show Act.put _ (some 15) _ = _
              simp only [Act.put, s1_, s2_, s3_, i64_w, i32_w]
              rfl
             refine one_ (i := 3) (N := some 63) #[y_,y_,y_,y_,n_,n_,n_,y_,n_,n_] rfl rfl (one_of HT_.out (by kernel_rfl)) (by decide) (fun K hK => ?_)
             refine goes_ Try.func11 (by kernel_rfl) rfl #[.int .i64 0, .bool true, .agg #[.int .i64 t336, .int .u64 t337, .int .i64 t338], .agg #[.int .i64 t357, .int .u64 t358, .int .i64 t359]] (by rfl) rfl rfl mp_ ?_
             with_reducible refine (value_Alu.calls k 0 true t336 t337 t338 t357 t358 t359 t360 t361 t362 t363 _ A13.out).mono ?_
             rintro e w58 ⟨rfl, hb⟩
             refine ⟨_, rfl, ?_⟩
             replace BK322 := bb_ hb BK322
             replace BK340 := bb_ hb BK340
             replace BK348 := bb_ hb BK348
             replace BK356 := bb_ hb BK356
             replace BK364 := bb_ hb BK364
             replace HB := bl_ hb
             try clear hb
             refine hK.out _ _ ⟨c0_ BK340, c1_ BK340, c2_ BK340⟩ (fun hHeld => ?_)
             clear hK K
             refine norm_ (a' := ?_) ?_ ?_
             rotate_left
             ·show Act.put _ (some 63) _ = _
              simp only [Act.put, s1_, s2_, s3_, i64_w, i32_w]
              rfl
             refine pq_ 4 59 #[y_,y_,y_,y_,y_,n_,n_,y_,n_,n_] ?_
             refine pq_ 5 64 #[y_,y_,y_,y_,y_,y_,n_,y_,n_,n_] ?_
             refine pq_ 6 65 #[y_,y_,y_,y_,y_,y_,y_,y_,n_,n_] ?_
             exact norm_ (by simp only [putAll, Act.put, List.setIfInBounds_toArray, List.set_cons_zero, List.set_cons_succ]) (hCont (gb364) _ ⟨hHeld, bk_, bk_, bk_, bk_, bk_, GW364.out, GE364.out, NB322_364.out, NB364_322.out, NB340_364.out, NB364_340.out, NB348_364.out, NB364_348.out, NB356_364.out, NB364_356.out, bz_⟩)
           ·skip
            refine box_step ?hg (N := 15) ?hd (cs := #[.int .i64 0, .int .u64 0, .int .i64 0]) (t := 24) ?hr ?_; (case hd => rfl); (case hg => rfl); (case hr => first | (go_simp; done) | (go_simp; rfl))
            intro gb364 hg w56 hbox hb
            have BK364 := Aside0.mk (hbox)
            have GW364 := bg_ hg
            have GE364 := GW364
            have NB322_364 := bm_ hg BK322
            have NB364_322 := bn_ hg BK322
            have NB340_364 := bm_ hg BK340
            have NB364_340 := bn_ hg BK340
            have NB348_364 := bm_ hg BK348
            have NB364_348 := bn_ hg BK348
            have NB356_364 := bm_ hg BK356
            have NB364_356 := bn_ hg BK356
            replace BK322 := bb_ hb BK322
            replace BK340 := bb_ hb BK340
            replace BK348 := bb_ hb BK348
            replace BK356 := bb_ hb BK356
            replace HB := bl_ hb
            clear hb hbox hg
            refine hK.out _ _ ⟨c0_ BK340, c1_ BK340, c2_ BK340⟩ (fun hHeld => ?_)
            clear hK K
            refine norm_ (a' := ?_) ?_ ?_
            rotate_left
            ·show Act.put _ (some 15) _ = _
             simp only [Act.put, s1_, s2_, s3_, i64_w, i32_w]
             rfl
            refine one_ (i := 2) (N := some 62) #[y_,y_,y_,n_,n_,n_,n_,y_,n_,n_] rfl rfl (one_of HT_.out (by kernel_rfl)) (by decide) (fun K hK => ?_)
            refine goes_ Try.func15 (by kernel_rfl) rfl #[.int .u64 a2] (by rfl) rfl rfl mp_ ?_
            with_reducible refine (value_Num.calls a2 t357 t358 t359 _ A12.out).mono ?_
            rintro e w57 ⟨rfl, hb⟩
            refine ⟨_, rfl, ?_⟩
            replace BK322 := bb_ hb BK322
            replace BK340 := bb_ hb BK340
            replace BK348 := bb_ hb BK348
            replace BK356 := bb_ hb BK356
            replace BK364 := bb_ hb BK364
            replace HB := bl_ hb
            try clear hb
            refine hK.out _ _ ⟨c0_ BK340, c1_ BK340, c2_ BK340⟩ (fun hHeld => ?_)
            clear hK K
            refine norm_ (a' := ?_) ?_ ?_
            rotate_left
            ·show Act.put _ (some 62) _ = _
             simp only [Act.put, s1_, s2_, s3_, i64_w, i32_w]
             rfl
            refine one_ (i := 3) (N := some 63) #[y_,y_,y_,y_,n_,n_,n_,y_,n_,n_] rfl rfl (one_of HT_.out (by kernel_rfl)) (by decide) (fun K hK => ?_)
            refine goes_ Try.func11 (by kernel_rfl) rfl #[.int .i64 0, .bool true, .agg #[.int .i64 t336, .int .u64 t337, .int .i64 t338], .agg #[.int .i64 t357, .int .u64 t358, .int .i64 t359]] (by rfl) rfl rfl mp_ ?_
            with_reducible refine (value_Alu.calls k 0 true t336 t337 t338 t357 t358 t359 t360 t361 t362 t363 _ A13.out).mono ?_
            rintro e w58 ⟨rfl, hb⟩
            refine ⟨_, rfl, ?_⟩
            replace BK322 := bb_ hb BK322
            replace BK340 := bb_ hb BK340
            replace BK348 := bb_ hb BK348
            replace BK356 := bb_ hb BK356
            replace BK364 := bb_ hb BK364
            replace HB := bl_ hb
            try clear hb
            refine hK.out _ _ ⟨c0_ BK340, c1_ BK340, c2_ BK340⟩ (fun hHeld => ?_)
            clear hK K
            refine norm_ (a' := ?_) ?_ ?_
            rotate_left
            ·show Act.put _ (some 63) _ = _
             simp only [Act.put, s1_, s2_, s3_, i64_w, i32_w]
             rfl
            refine pq_ 4 59 #[y_,y_,y_,y_,y_,n_,n_,y_,n_,n_] ?_
            refine pq_ 5 64 #[y_,y_,y_,y_,y_,y_,n_,y_,n_,n_] ?_
            refine pq_ 6 65 #[y_,y_,y_,y_,y_,y_,y_,y_,n_,n_] ?_
            exact norm_ (by simp only [putAll, Act.put, List.setIfInBounds_toArray, List.set_cons_zero, List.set_cons_succ]) (hCont (gb364) _ ⟨hHeld, bk_, bk_, bk_, bk_, bk_, GW364.out, GE364.out, NB322_364.out, NB364_322.out, NB340_364.out, NB364_340.out, NB348_364.out, NB364_348.out, NB356_364.out, NB364_356.out, bz_⟩)
          rintro gb364 w59 ⟨hS_, h0_, h1_, h2_, h3_, h4_, h5_, h6_, h7_, h8_, h9_, h10_, h11_, h12_, h13_, h14_, h15_⟩
          have n0_ : Aside0 (w59.heap[gb322]? = some (.cells #[.int .i64 a0_0, .int .u64 a0_1, .int .i64 a0_2] 24 (0, 0))) := ⟨h0_⟩
          have n1_ : Aside0 (w59.heap[gb340]? = some (.cells #[.int .i64 t336, .int .u64 t337, .int .i64 t338] 24 (0, 0))) := ⟨h1_⟩
          have n2_ : Aside0 (w59.heap[gb348]? = some (.cells #[.int .i64 t344, .int .u64 t345, .int .i64 t346] 24 (0, 0))) := ⟨h2_⟩
          have n3_ : Aside0 (w59.heap[gb356]? = some (.cells #[.int .i64 t352, .int .u64 t353, .int .i64 t354] 24 (0, 0))) := ⟨h3_⟩
          have n4_ : Aside0 (w59.heap[gb364]? = some (.cells #[.int .i64 0, .int .u64 0, .int .i64 0] 24 (0, 0))) := ⟨h4_⟩
          have n5_ : Aside0 (w.heap.size ≤ gb364) := ⟨h5_⟩
          have n6_ : Aside0 (w.heap.size ≤ gb364) := ⟨h6_⟩
          have n7_ : Aside0 (gb322 ≠ gb364) := ⟨h7_⟩
          have n8_ : Aside0 (gb364 ≠ gb322) := ⟨h8_⟩
          have n9_ : Aside0 (gb340 ≠ gb364) := ⟨h9_⟩
          have n10_ : Aside0 (gb364 ≠ gb340) := ⟨h10_⟩
          have n11_ : Aside0 (gb348 ≠ gb364) := ⟨h11_⟩
          have n12_ : Aside0 (gb364 ≠ gb348) := ⟨h12_⟩
          have n13_ : Aside0 (gb356 ≠ gb364) := ⟨h13_⟩
          have n14_ : Aside0 (gb364 ≠ gb356) := ⟨h14_⟩
          have n15_ : Aside0 (Below w.heap.size w w59) := ⟨h15_⟩
          clear BK322
          clear BK340
          clear BK348
          clear BK356
          clear HB
          clear h0_ h1_ h2_ h3_ h4_ h5_ h6_ h7_ h8_ h9_ h10_ h11_ h12_ h13_ h14_ h15_
          have BK322 := n0_
          have BK340 := n1_
          have BK348 := n2_
          have BK356 := n3_
          have BK364 := n4_
          have GW364 := n5_
          have GE364 := n6_
          have NB322_364 := n7_
          have NB364_322 := n8_
          have NB340_364 := n9_
          have NB364_340 := n10_
          have NB348_364 := n11_
          have NB364_348 := n12_
          have NB356_364 := n13_
          have NB364_356 := n14_
          have HB := n15_
          clear n0_ n1_ n2_ n3_ n4_ n5_ n6_ n7_ n8_ n9_ n10_ n11_ n12_ n13_ n14_ n15_
          have hHeld : w59.cell? ⟨gb340, 0, none⟩ = some (.int .i64 t336) ∧ w59.cell? ⟨gb340, 1, none⟩ = some (.int .u64 t337) ∧ w59.cell? ⟨gb340, 2, none⟩ = some (.int .i64 t338) := hS_
          refine norm_ (a' := ?_) ?_ ?_
          rotate_left
          ·simp only [putAll, Act.put, List.setIfInBounds_toArray, List.set_cons_zero, List.set_cons_succ]
           rfl
          refine one_ (i := 8) (N := none) #[y_,y_,y_,y_,y_,y_,y_,y_,y_,n_] rfl rfl (one_of HT_.out (by kernel_rfl)) (by decide) (fun K hK => ?_)
          obtain ⟨hs60, hfs60⟩ := k1_ BK364
          have hns60_0 := NB322_364.out
          have hns60_1 := NB340_364.out
          have hns60_2 := NB348_364.out
          have hns60_3 := NB356_364.out
          have hms60_0 := NB364_322.out
          have hms60_1 := NB364_340.out
          have hms60_2 := NB364_348.out
          have hms60_3 := NB364_356.out
          have hs61 := c1_ BK364
          have hfs61 := fz_ BK364 1
          have hns61_0 := NB322_364.out
          have hns61_1 := NB340_364.out
          have hns61_2 := NB348_364.out
          have hns61_3 := NB356_364.out
          have hms61_0 := NB364_322.out
          have hms61_1 := NB364_340.out
          have hms61_2 := NB364_348.out
          have hms61_3 := NB364_356.out
          have hs62 := c2_ BK364
          have hfs62 := fz_ BK364 2
          have hns62_0 := NB322_364.out
          have hns62_1 := NB340_364.out
          have hns62_2 := NB348_364.out
          have hns62_3 := NB356_364.out
          have hms62_0 := NB364_322.out
          have hms62_1 := NB364_340.out
          have hms62_2 := NB364_348.out
          have hms62_3 := NB364_356.out
          refine skip_ (w1 := ?_) (by rfl) rfl ?_ ?_
          rotate_left
          ·go_simp
           rfl
          refine hK.out _ _ ⟨((cell_far (p := ⟨gb364, _, none⟩) NB340_364.out _).trans (((cell_far (p := ⟨gb364, _, none⟩) NB340_364.out _).trans (((cell_far (p := ⟨gb364, _, none⟩) NB340_364.out _).trans (hHeld.1)))))), ((cell_far (p := ⟨gb364, _, none⟩) NB340_364.out _).trans (((cell_far (p := ⟨gb364, _, none⟩) NB340_364.out _).trans (((cell_far (p := ⟨gb364, _, none⟩) NB340_364.out _).trans (hHeld.2.1)))))), ((cell_far (p := ⟨gb364, _, none⟩) NB340_364.out _).trans (((cell_far (p := ⟨gb364, _, none⟩) NB340_364.out _).trans (((cell_far (p := ⟨gb364, _, none⟩) NB340_364.out _).trans (hHeld.2.2))))))⟩ (fun hHeld => ?_)
          clear hK K
          refine pq_ 9 16 #[y_,y_,y_,y_,y_,y_,y_,y_,y_,y_] ?_
          refine done_ (done_of HT_.out (by kernel_rfl)) ?_
          try go_wp2
          have n0_ : Aside0 ((((w59.setCell ⟨gb364, 0, none⟩ (.int .i64 t360)).setCell ⟨gb364, 1, none⟩ (.int .u64 t361)).setCell ⟨gb364, 2, none⟩ (.int .i64 t362)).heap[gb322]? = some (.cells #[.int .i64 a0_0, .int .u64 a0_1, .int .i64 a0_2] 24 (0, 0))) := ⟨by (with_reducible repeat (first | apply bN_ | apply bD_ | apply bA_)); refine blk_far ?_ NB322_364.out _; (with_reducible repeat (first | apply bN_ | apply bD_ | apply bA_)); refine blk_far ?_ NB322_364.out _; (with_reducible repeat (first | apply bN_ | apply bD_ | apply bA_)); refine blk_far ?_ NB322_364.out _; exact bk_⟩
          have n1_ : Aside0 ((((w59.setCell ⟨gb364, 0, none⟩ (.int .i64 t360)).setCell ⟨gb364, 1, none⟩ (.int .u64 t361)).setCell ⟨gb364, 2, none⟩ (.int .i64 t362)).heap[gb340]? = some (.cells #[.int .i64 t336, .int .u64 t337, .int .i64 t338] 24 (0, 0))) := ⟨by (with_reducible repeat (first | apply bN_ | apply bD_ | apply bA_)); refine blk_far ?_ NB340_364.out _; (with_reducible repeat (first | apply bN_ | apply bD_ | apply bA_)); refine blk_far ?_ NB340_364.out _; (with_reducible repeat (first | apply bN_ | apply bD_ | apply bA_)); refine blk_far ?_ NB340_364.out _; exact bk_⟩
          have n2_ : Aside0 ((((w59.setCell ⟨gb364, 0, none⟩ (.int .i64 t360)).setCell ⟨gb364, 1, none⟩ (.int .u64 t361)).setCell ⟨gb364, 2, none⟩ (.int .i64 t362)).heap[gb348]? = some (.cells #[.int .i64 t344, .int .u64 t345, .int .i64 t346] 24 (0, 0))) := ⟨by (with_reducible repeat (first | apply bN_ | apply bD_ | apply bA_)); refine blk_far ?_ NB348_364.out _; (with_reducible repeat (first | apply bN_ | apply bD_ | apply bA_)); refine blk_far ?_ NB348_364.out _; (with_reducible repeat (first | apply bN_ | apply bD_ | apply bA_)); refine blk_far ?_ NB348_364.out _; exact bk_⟩
          have n3_ : Aside0 ((((w59.setCell ⟨gb364, 0, none⟩ (.int .i64 t360)).setCell ⟨gb364, 1, none⟩ (.int .u64 t361)).setCell ⟨gb364, 2, none⟩ (.int .i64 t362)).heap[gb356]? = some (.cells #[.int .i64 t352, .int .u64 t353, .int .i64 t354] 24 (0, 0))) := ⟨by (with_reducible repeat (first | apply bN_ | apply bD_ | apply bA_)); refine blk_far ?_ NB356_364.out _; (with_reducible repeat (first | apply bN_ | apply bD_ | apply bA_)); refine blk_far ?_ NB356_364.out _; (with_reducible repeat (first | apply bN_ | apply bD_ | apply bA_)); refine blk_far ?_ NB356_364.out _; exact bk_⟩
          have n4_ : Aside0 ((((w59.setCell ⟨gb364, 0, none⟩ (.int .i64 t360)).setCell ⟨gb364, 1, none⟩ (.int .u64 t361)).setCell ⟨gb364, 2, none⟩ (.int .i64 t362)).heap[gb364]? = some (.cells #[.int .i64 t360, .int .u64 t361, .int .i64 t362] 24 (0, 0))) := ⟨by (with_reducible repeat (first | apply bN_ | apply bD_ | apply bA_)); refine blk_put (cs := #[.int .i64 t360, .int .u64 t361, .int .i64 0]) ?_ 2 _ rfl; (with_reducible repeat (first | apply bN_ | apply bD_ | apply bA_)); refine blk_put (cs := #[.int .i64 t360, .int .u64 0, .int .i64 0]) ?_ 1 _ rfl; (with_reducible repeat (first | apply bN_ | apply bD_ | apply bA_)); refine blk_put (cs := #[.int .i64 0, .int .u64 0, .int .i64 0]) ?_ 0 _ rfl; exact bk_⟩
          have n5_ : Aside0 (Below w.heap.size w (((w59.setCell ⟨gb364, 0, none⟩ (.int .i64 t360)).setCell ⟨gb364, 1, none⟩ (.int .u64 t361)).setCell ⟨gb364, 2, none⟩ (.int .i64 t362))) := ⟨bz_⟩
          (try clear BK322)
          (try clear BK340)
          (try clear BK348)
          (try clear BK356)
          (try clear BK364)
          (try clear HB)
          generalize (((w59.setCell ⟨gb364, 0, none⟩ (.int .i64 t360)).setCell ⟨gb364, 1, none⟩ (.int .u64 t361)).setCell ⟨gb364, 2, none⟩ (.int .i64 t362)) = w63 at n0_ n1_ n2_ n3_ n4_ n5_ ⊢
          have BK322 := n0_
          have BK340 := n1_
          have BK348 := n2_
          have BK356 := n3_
          have BK364 := n4_
          have HB := n5_
          clear n0_ n1_ n2_ n3_ n4_ n5_
          replace BK322 := Aside0.mk (blk_drew BK322.out)
          replace BK340 := Aside0.mk (blk_drew BK340.out)
          replace BK348 := Aside0.mk (blk_drew BK348.out)
          replace BK356 := Aside0.mk (blk_drew BK356.out)
          replace BK364 := Aside0.mk (blk_drew BK364.out)
          replace HB := Aside0.mk (below_drew1 HB.out)
          refine start_ (n := 12) (S := fun w' => w'.cell? ⟨gb322, 0, none⟩ = some (.int .i64 a0_0) ∧ w'.cell? ⟨gb322, 1, none⟩ = some (.int .u64 a0_1) ∧ w'.cell? ⟨gb322, 2, none⟩ = some (.int .i64 a0_2)) (ds := []) #[n_,n_,n_,n_,n_,n_,n_,n_,n_,n_,n_,n_] (by kernel_rfl) rfl rfl ⟨c0_ BK322, c1_ BK322, c2_ BK322⟩ (fun hHeld => ?_); refine with_tabW lockgatelaw14_ValueBack.tab8 lockgatelaw14_ValueBack.bits8 (fun HT_ HW_ => ?_)
          generalize w63.drew = w64 at BK322 BK340 BK348 BK356 BK364 HB hHeld ⊢
          refine pq_ 1 68 #[n_,y_,n_,n_,n_,n_,n_,n_,n_,n_,n_,n_] ?_
          refine pq_ 2 69 #[n_,y_,y_,n_,n_,n_,n_,n_,n_,n_,n_,n_] ?_
          refine pq_ 3 70 #[n_,y_,y_,y_,n_,n_,n_,n_,n_,n_,n_,n_] ?_
          refine tq2_ 0 67 #[y_,y_,y_,y_,n_,n_,n_,n_,n_,n_,n_,n_] hHeld ?_
          refine join_ (σ := Nat) 2 #[y_,y_,y_,y_,y_,y_,y_,y_,y_,y_,n_,n_] (fun s_ => [(71, .agg #[.int .i64 t365, .int .u64 t366, .int .i64 t367]), (72, .tuple #[.agg #[.int .i64 t368, .int .u64 t369, .int .i64 t370], .int .i64 t371]), (17, .pointer (some ⟨s_, 0, none⟩)), (66, .tuple #[.agg #[.int .i64 t368, .int .u64 t369, .int .i64 t370], .int .i64 t371]), (73, .agg #[.int .i64 t368, .int .u64 t369, .int .i64 t370]), (74, .int .i64 t371)]) (fun s_ w' => (w'.cell? ⟨gb322, 0, none⟩ = some (.int .i64 a0_0) ∧ w'.cell? ⟨gb322, 1, none⟩ = some (.int .u64 a0_1) ∧ w'.cell? ⟨gb322, 2, none⟩ = some (.int .i64 a0_2)) ∧ (w'.heap[gb322]? = some (.cells #[.int .i64 a0_0, .int .u64 a0_1, .int .i64 a0_2] 24 (0, 0))) ∧ (w'.heap[gb340]? = some (.cells #[.int .i64 t336, .int .u64 t337, .int .i64 t338] 24 (0, 0))) ∧ (w'.heap[gb348]? = some (.cells #[.int .i64 t344, .int .u64 t345, .int .i64 t346] 24 (0, 0))) ∧ (w'.heap[gb356]? = some (.cells #[.int .i64 t352, .int .u64 t353, .int .i64 t354] 24 (0, 0))) ∧ (w'.heap[gb364]? = some (.cells #[.int .i64 t360, .int .u64 t361, .int .i64 t362] 24 (0, 0))) ∧ (w'.heap[s_]? = some (.cells #[.int .i64 0, .int .u64 0, .int .i64 0] 24 (0, 0))) ∧ (w.heap.size ≤ s_) ∧ (w.heap.size ≤ s_) ∧ (gb322 ≠ s_) ∧ (s_ ≠ gb322) ∧ (gb340 ≠ s_) ∧ (s_ ≠ gb340) ∧ (gb348 ≠ s_) ∧ (s_ ≠ gb348) ∧ (gb356 ≠ s_) ∧ (s_ ≠ gb356) ∧ (gb364 ≠ s_) ∧ (s_ ≠ gb364) ∧ (Below w.heap.size w w')) ?_ ?_
          rotate_left
          ·intro hCont
           refine two_ (i := 4) (j := 9) (Ni := some 71) (Nj := some 17) #[y_,y_,y_,y_,y_,n_,n_,n_,n_,n_,n_,n_] #[y_,y_,y_,y_,n_,n_,n_,n_,n_,y_,n_,n_] rfl rfl rfl rfl (two_of HT_.out (by kernel_rfl)) (by decide) (by decide) (fun K hK => ?_) (fun K hK => ?_)
           ·skip
            refine goes_ Try.func15 (by kernel_rfl) rfl #[.int .u64 (IntKind.u64.wrap (a1 + a2))] (by rfl) rfl rfl mp_ ?_
            with_reducible refine (value_Num.calls (IntKind.u64.wrap (a1 + a2)) t365 t366 t367 _ A14.out).mono ?_
            rintro e w65 ⟨rfl, hb⟩
            refine ⟨_, rfl, ?_⟩
            replace BK322 := bb_ hb BK322
            replace BK340 := bb_ hb BK340
            replace BK348 := bb_ hb BK348
            replace BK356 := bb_ hb BK356
            replace BK364 := bb_ hb BK364
            replace HB := bl_ hb
            try clear hb
            refine hK.out _ _ ⟨c0_ BK322, c1_ BK322, c2_ BK322⟩ (fun hHeld => ?_)
            clear hK K
            refine norm_ (a' := ?_) ?_ ?_
            rotate_left
            ·show Act.put _ (some 71) _ = _
             simp only [Act.put, s1_, s2_, s3_, i64_w, i32_w]
             rfl
            refine two_ (i := 5) (j := 9) (Ni := some 72) (Nj := some 17) #[y_,y_,y_,y_,y_,y_,n_,n_,n_,n_,n_,n_] #[y_,y_,y_,y_,y_,n_,n_,n_,n_,y_,n_,n_] rfl rfl rfl rfl (two_of HT_.out (by kernel_rfl)) (by decide) (by decide) (fun K hK => ?_) (fun K hK => ?_)
            ·skip
             refine goes_ Try.func11 (by kernel_rfl) rfl #[.int .i64 0, .bool true, .agg #[.int .i64 a0_0, .int .u64 a0_1, .int .i64 a0_2], .agg #[.int .i64 t365, .int .u64 t366, .int .i64 t367]] (by rfl) rfl rfl mp_ ?_
             with_reducible refine (value_Alu.calls k 0 true a0_0 a0_1 a0_2 t365 t366 t367 t368 t369 t370 t371 _ A15.out).mono ?_
             rintro e w66 ⟨rfl, hb⟩
             refine ⟨_, rfl, ?_⟩
             replace BK322 := bb_ hb BK322
             replace BK340 := bb_ hb BK340
             replace BK348 := bb_ hb BK348
             replace BK356 := bb_ hb BK356
             replace BK364 := bb_ hb BK364
             replace HB := bl_ hb
             try clear hb
             refine hK.out _ _ ⟨c0_ BK322, c1_ BK322, c2_ BK322⟩ (fun hHeld => ?_)
             clear hK K
             refine norm_ (a' := ?_) ?_ ?_
             rotate_left
             ·show Act.put _ (some 72) _ = _
              simp only [Act.put, s1_, s2_, s3_, i64_w, i32_w]
              rfl
             refine pq_ 6 66 #[y_,y_,y_,y_,y_,y_,y_,n_,n_,n_,n_,n_] ?_
             refine pq_ 7 73 #[y_,y_,y_,y_,y_,y_,y_,y_,n_,n_,n_,n_] ?_
             refine pq_ 8 74 #[y_,y_,y_,y_,y_,y_,y_,y_,y_,n_,n_,n_] ?_
             refine one_ (i := 9) (N := some 17) #[y_,y_,y_,y_,y_,y_,y_,y_,y_,y_,n_,n_] rfl rfl (one_of HT_.out (by kernel_rfl)) (by decide) (fun K hK => ?_)
             refine box_step ?hg (N := 17) ?hd (cs := #[.int .i64 0, .int .u64 0, .int .i64 0]) (t := 24) ?hr ?_; (case hd => rfl); (case hg => rfl); (case hr => first | (go_simp; done) | (go_simp; rfl))
             intro gb372 hg w67 hbox hb
             have BK372 := Aside0.mk (hbox)
             have GW372 := bg_ hg
             have GE372 := GW372
             have NB322_372 := bm_ hg BK322
             have NB372_322 := bn_ hg BK322
             have NB340_372 := bm_ hg BK340
             have NB372_340 := bn_ hg BK340
             have NB348_372 := bm_ hg BK348
             have NB372_348 := bn_ hg BK348
             have NB356_372 := bm_ hg BK356
             have NB372_356 := bn_ hg BK356
             have NB364_372 := bm_ hg BK364
             have NB372_364 := bn_ hg BK364
             replace BK322 := bb_ hb BK322
             replace BK340 := bb_ hb BK340
             replace BK348 := bb_ hb BK348
             replace BK356 := bb_ hb BK356
             replace BK364 := bb_ hb BK364
             replace HB := bl_ hb
             clear hb hbox hg
             refine hK.out _ _ ⟨c0_ BK322, c1_ BK322, c2_ BK322⟩ (fun hHeld => ?_)
             clear hK K
             refine norm_ (a' := ?_) ?_ ?_
             rotate_left
             ·show Act.put _ (some 17) _ = _
              simp only [Act.put, s1_, s2_, s3_, i64_w, i32_w]
              rfl
             exact norm_ (by simp only [putAll, Act.put, List.setIfInBounds_toArray, List.set_cons_zero, List.set_cons_succ]) (hCont (gb372) _ ⟨hHeld, bk_, bk_, bk_, bk_, bk_, bk_, GW372.out, GE372.out, NB322_372.out, NB372_322.out, NB340_372.out, NB372_340.out, NB348_372.out, NB372_348.out, NB356_372.out, NB372_356.out, NB364_372.out, NB372_364.out, bz_⟩)
            ·skip
             refine box_step ?hg (N := 17) ?hd (cs := #[.int .i64 0, .int .u64 0, .int .i64 0]) (t := 24) ?hr ?_; (case hd => rfl); (case hg => rfl); (case hr => first | (go_simp; done) | (go_simp; rfl))
             intro gb372 hg w66 hbox hb
             have BK372 := Aside0.mk (hbox)
             have GW372 := bg_ hg
             have GE372 := GW372
             have NB322_372 := bm_ hg BK322
             have NB372_322 := bn_ hg BK322
             have NB340_372 := bm_ hg BK340
             have NB372_340 := bn_ hg BK340
             have NB348_372 := bm_ hg BK348
             have NB372_348 := bn_ hg BK348
             have NB356_372 := bm_ hg BK356
             have NB372_356 := bn_ hg BK356
             have NB364_372 := bm_ hg BK364
             have NB372_364 := bn_ hg BK364
             replace BK322 := bb_ hb BK322
             replace BK340 := bb_ hb BK340
             replace BK348 := bb_ hb BK348
             replace BK356 := bb_ hb BK356
             replace BK364 := bb_ hb BK364
             replace HB := bl_ hb
             clear hb hbox hg
             refine hK.out _ _ ⟨c0_ BK322, c1_ BK322, c2_ BK322⟩ (fun hHeld => ?_)
             clear hK K
             refine norm_ (a' := ?_) ?_ ?_
             rotate_left
             ·show Act.put _ (some 17) _ = _
              simp only [Act.put, s1_, s2_, s3_, i64_w, i32_w]
              rfl
             refine one_ (i := 5) (N := some 72) #[y_,y_,y_,y_,y_,y_,n_,n_,n_,y_,n_,n_] rfl rfl (one_of HT_.out (by kernel_rfl)) (by decide) (fun K hK => ?_)
             refine goes_ Try.func11 (by kernel_rfl) rfl #[.int .i64 0, .bool true, .agg #[.int .i64 a0_0, .int .u64 a0_1, .int .i64 a0_2], .agg #[.int .i64 t365, .int .u64 t366, .int .i64 t367]] (by rfl) rfl rfl mp_ ?_
             with_reducible refine (value_Alu.calls k 0 true a0_0 a0_1 a0_2 t365 t366 t367 t368 t369 t370 t371 _ A15.out).mono ?_
             rintro e w67 ⟨rfl, hb⟩
             refine ⟨_, rfl, ?_⟩
             replace BK322 := bb_ hb BK322
             replace BK340 := bb_ hb BK340
             replace BK348 := bb_ hb BK348
             replace BK356 := bb_ hb BK356
             replace BK364 := bb_ hb BK364
             replace BK372 := bb_ hb BK372
             replace HB := bl_ hb
             try clear hb
             refine hK.out _ _ ⟨c0_ BK322, c1_ BK322, c2_ BK322⟩ (fun hHeld => ?_)
             clear hK K
             refine norm_ (a' := ?_) ?_ ?_
             rotate_left
             ·show Act.put _ (some 72) _ = _
              simp only [Act.put, s1_, s2_, s3_, i64_w, i32_w]
              rfl
             refine pq_ 6 66 #[y_,y_,y_,y_,y_,y_,y_,n_,n_,y_,n_,n_] ?_
             refine pq_ 7 73 #[y_,y_,y_,y_,y_,y_,y_,y_,n_,y_,n_,n_] ?_
             refine pq_ 8 74 #[y_,y_,y_,y_,y_,y_,y_,y_,y_,y_,n_,n_] ?_
             exact norm_ (by simp only [putAll, Act.put, List.setIfInBounds_toArray, List.set_cons_zero, List.set_cons_succ]) (hCont (gb372) _ ⟨hHeld, bk_, bk_, bk_, bk_, bk_, bk_, GW372.out, GE372.out, NB322_372.out, NB372_322.out, NB340_372.out, NB372_340.out, NB348_372.out, NB372_348.out, NB356_372.out, NB372_356.out, NB364_372.out, NB372_364.out, bz_⟩)
           ·skip
            refine box_step ?hg (N := 17) ?hd (cs := #[.int .i64 0, .int .u64 0, .int .i64 0]) (t := 24) ?hr ?_; (case hd => rfl); (case hg => rfl); (case hr => first | (go_simp; done) | (go_simp; rfl))
            intro gb372 hg w65 hbox hb
            have BK372 := Aside0.mk (hbox)
            have GW372 := bg_ hg
            have GE372 := GW372
            have NB322_372 := bm_ hg BK322
            have NB372_322 := bn_ hg BK322
            have NB340_372 := bm_ hg BK340
            have NB372_340 := bn_ hg BK340
            have NB348_372 := bm_ hg BK348
            have NB372_348 := bn_ hg BK348
            have NB356_372 := bm_ hg BK356
            have NB372_356 := bn_ hg BK356
            have NB364_372 := bm_ hg BK364
            have NB372_364 := bn_ hg BK364
            replace BK322 := bb_ hb BK322
            replace BK340 := bb_ hb BK340
            replace BK348 := bb_ hb BK348
            replace BK356 := bb_ hb BK356
            replace BK364 := bb_ hb BK364
            replace HB := bl_ hb
            clear hb hbox hg
            refine hK.out _ _ ⟨c0_ BK322, c1_ BK322, c2_ BK322⟩ (fun hHeld => ?_)
            clear hK K
            refine norm_ (a' := ?_) ?_ ?_
            rotate_left
            ·show Act.put _ (some 17) _ = _
             simp only [Act.put, s1_, s2_, s3_, i64_w, i32_w]
             rfl
            refine one_ (i := 4) (N := some 71) #[y_,y_,y_,y_,y_,n_,n_,n_,n_,y_,n_,n_] rfl rfl (one_of HT_.out (by kernel_rfl)) (by decide) (fun K hK => ?_)
            refine goes_ Try.func15 (by kernel_rfl) rfl #[.int .u64 (IntKind.u64.wrap (a1 + a2))] (by rfl) rfl rfl mp_ ?_
            with_reducible refine (value_Num.calls (IntKind.u64.wrap (a1 + a2)) t365 t366 t367 _ A14.out).mono ?_
            rintro e w66 ⟨rfl, hb⟩
            refine ⟨_, rfl, ?_⟩
            replace BK322 := bb_ hb BK322
            replace BK340 := bb_ hb BK340
            replace BK348 := bb_ hb BK348
            replace BK356 := bb_ hb BK356
            replace BK364 := bb_ hb BK364
            replace BK372 := bb_ hb BK372
            replace HB := bl_ hb
            try clear hb
            refine hK.out _ _ ⟨c0_ BK322, c1_ BK322, c2_ BK322⟩ (fun hHeld => ?_)
            clear hK K
            refine norm_ (a' := ?_) ?_ ?_
            rotate_left
            ·show Act.put _ (some 71) _ = _
             simp only [Act.put, s1_, s2_, s3_, i64_w, i32_w]
             rfl
            refine one_ (i := 5) (N := some 72) #[y_,y_,y_,y_,y_,y_,n_,n_,n_,y_,n_,n_] rfl rfl (one_of HT_.out (by kernel_rfl)) (by decide) (fun K hK => ?_)
            refine goes_ Try.func11 (by kernel_rfl) rfl #[.int .i64 0, .bool true, .agg #[.int .i64 a0_0, .int .u64 a0_1, .int .i64 a0_2], .agg #[.int .i64 t365, .int .u64 t366, .int .i64 t367]] (by rfl) rfl rfl mp_ ?_
            with_reducible refine (value_Alu.calls k 0 true a0_0 a0_1 a0_2 t365 t366 t367 t368 t369 t370 t371 _ A15.out).mono ?_
            rintro e w67 ⟨rfl, hb⟩
            refine ⟨_, rfl, ?_⟩
            replace BK322 := bb_ hb BK322
            replace BK340 := bb_ hb BK340
            replace BK348 := bb_ hb BK348
            replace BK356 := bb_ hb BK356
            replace BK364 := bb_ hb BK364
            replace BK372 := bb_ hb BK372
            replace HB := bl_ hb
            try clear hb
            refine hK.out _ _ ⟨c0_ BK322, c1_ BK322, c2_ BK322⟩ (fun hHeld => ?_)
            clear hK K
            refine norm_ (a' := ?_) ?_ ?_
            rotate_left
            ·show Act.put _ (some 72) _ = _
             simp only [Act.put, s1_, s2_, s3_, i64_w, i32_w]
             rfl
            refine pq_ 6 66 #[y_,y_,y_,y_,y_,y_,y_,n_,n_,y_,n_,n_] ?_
            refine pq_ 7 73 #[y_,y_,y_,y_,y_,y_,y_,y_,n_,y_,n_,n_] ?_
            refine pq_ 8 74 #[y_,y_,y_,y_,y_,y_,y_,y_,y_,y_,n_,n_] ?_
            exact norm_ (by simp only [putAll, Act.put, List.setIfInBounds_toArray, List.set_cons_zero, List.set_cons_succ]) (hCont (gb372) _ ⟨hHeld, bk_, bk_, bk_, bk_, bk_, bk_, GW372.out, GE372.out, NB322_372.out, NB372_322.out, NB340_372.out, NB372_340.out, NB348_372.out, NB372_348.out, NB356_372.out, NB372_356.out, NB364_372.out, NB372_364.out, bz_⟩)
          rintro gb372 w68 ⟨hS_, h0_, h1_, h2_, h3_, h4_, h5_, h6_, h7_, h8_, h9_, h10_, h11_, h12_, h13_, h14_, h15_, h16_, h17_, h18_⟩
          have n0_ : Aside0 (w68.heap[gb322]? = some (.cells #[.int .i64 a0_0, .int .u64 a0_1, .int .i64 a0_2] 24 (0, 0))) := ⟨h0_⟩
          have n1_ : Aside0 (w68.heap[gb340]? = some (.cells #[.int .i64 t336, .int .u64 t337, .int .i64 t338] 24 (0, 0))) := ⟨h1_⟩
          have n2_ : Aside0 (w68.heap[gb348]? = some (.cells #[.int .i64 t344, .int .u64 t345, .int .i64 t346] 24 (0, 0))) := ⟨h2_⟩
          have n3_ : Aside0 (w68.heap[gb356]? = some (.cells #[.int .i64 t352, .int .u64 t353, .int .i64 t354] 24 (0, 0))) := ⟨h3_⟩
          have n4_ : Aside0 (w68.heap[gb364]? = some (.cells #[.int .i64 t360, .int .u64 t361, .int .i64 t362] 24 (0, 0))) := ⟨h4_⟩
          have n5_ : Aside0 (w68.heap[gb372]? = some (.cells #[.int .i64 0, .int .u64 0, .int .i64 0] 24 (0, 0))) := ⟨h5_⟩
          have n6_ : Aside0 (w.heap.size ≤ gb372) := ⟨h6_⟩
          have n7_ : Aside0 (w.heap.size ≤ gb372) := ⟨h7_⟩
          have n8_ : Aside0 (gb322 ≠ gb372) := ⟨h8_⟩
          have n9_ : Aside0 (gb372 ≠ gb322) := ⟨h9_⟩
          have n10_ : Aside0 (gb340 ≠ gb372) := ⟨h10_⟩
          have n11_ : Aside0 (gb372 ≠ gb340) := ⟨h11_⟩
          have n12_ : Aside0 (gb348 ≠ gb372) := ⟨h12_⟩
          have n13_ : Aside0 (gb372 ≠ gb348) := ⟨h13_⟩
          have n14_ : Aside0 (gb356 ≠ gb372) := ⟨h14_⟩
          have n15_ : Aside0 (gb372 ≠ gb356) := ⟨h15_⟩
          have n16_ : Aside0 (gb364 ≠ gb372) := ⟨h16_⟩
          have n17_ : Aside0 (gb372 ≠ gb364) := ⟨h17_⟩
          have n18_ : Aside0 (Below w.heap.size w w68) := ⟨h18_⟩
          clear BK322
          clear BK340
          clear BK348
          clear BK356
          clear BK364
          clear HB
          clear h0_ h1_ h2_ h3_ h4_ h5_ h6_ h7_ h8_ h9_ h10_ h11_ h12_ h13_ h14_ h15_ h16_ h17_ h18_
          have BK322 := n0_
          have BK340 := n1_
          have BK348 := n2_
          have BK356 := n3_
          have BK364 := n4_
          have BK372 := n5_
          have GW372 := n6_
          have GE372 := n7_
          have NB322_372 := n8_
          have NB372_322 := n9_
          have NB340_372 := n10_
          have NB372_340 := n11_
          have NB348_372 := n12_
          have NB372_348 := n13_
          have NB356_372 := n14_
          have NB372_356 := n15_
          have NB364_372 := n16_
          have NB372_364 := n17_
          have HB := n18_
          clear n0_ n1_ n2_ n3_ n4_ n5_ n6_ n7_ n8_ n9_ n10_ n11_ n12_ n13_ n14_ n15_ n16_ n17_ n18_
          have hHeld : w68.cell? ⟨gb322, 0, none⟩ = some (.int .i64 a0_0) ∧ w68.cell? ⟨gb322, 1, none⟩ = some (.int .u64 a0_1) ∧ w68.cell? ⟨gb322, 2, none⟩ = some (.int .i64 a0_2) := hS_
          refine norm_ (a' := ?_) ?_ ?_
          rotate_left
          ·simp only [putAll, Act.put, List.setIfInBounds_toArray, List.set_cons_zero, List.set_cons_succ]
           rfl
          refine one_ (i := 10) (N := none) #[y_,y_,y_,y_,y_,y_,y_,y_,y_,y_,y_,n_] rfl rfl (one_of HT_.out (by kernel_rfl)) (by decide) (fun K hK => ?_)
          obtain ⟨hs69, hfs69⟩ := k1_ BK372
          have hns69_0 := NB322_372.out
          have hns69_1 := NB340_372.out
          have hns69_2 := NB348_372.out
          have hns69_3 := NB356_372.out
          have hns69_4 := NB364_372.out
          have hms69_0 := NB372_322.out
          have hms69_1 := NB372_340.out
          have hms69_2 := NB372_348.out
          have hms69_3 := NB372_356.out
          have hms69_4 := NB372_364.out
          have hs70 := c1_ BK372
          have hfs70 := fz_ BK372 1
          have hns70_0 := NB322_372.out
          have hns70_1 := NB340_372.out
          have hns70_2 := NB348_372.out
          have hns70_3 := NB356_372.out
          have hns70_4 := NB364_372.out
          have hms70_0 := NB372_322.out
          have hms70_1 := NB372_340.out
          have hms70_2 := NB372_348.out
          have hms70_3 := NB372_356.out
          have hms70_4 := NB372_364.out
          have hs71 := c2_ BK372
          have hfs71 := fz_ BK372 2
          have hns71_0 := NB322_372.out
          have hns71_1 := NB340_372.out
          have hns71_2 := NB348_372.out
          have hns71_3 := NB356_372.out
          have hns71_4 := NB364_372.out
          have hms71_0 := NB372_322.out
          have hms71_1 := NB372_340.out
          have hms71_2 := NB372_348.out
          have hms71_3 := NB372_356.out
          have hms71_4 := NB372_364.out
          refine skip_ (w1 := ?_) (by rfl) rfl ?_ ?_
          rotate_left
          ·go_simp
           rfl
          refine hK.out _ _ ⟨((cell_far (p := ⟨gb372, _, none⟩) NB322_372.out _).trans (((cell_far (p := ⟨gb372, _, none⟩) NB322_372.out _).trans (((cell_far (p := ⟨gb372, _, none⟩) NB322_372.out _).trans (hHeld.1)))))), ((cell_far (p := ⟨gb372, _, none⟩) NB322_372.out _).trans (((cell_far (p := ⟨gb372, _, none⟩) NB322_372.out _).trans (((cell_far (p := ⟨gb372, _, none⟩) NB322_372.out _).trans (hHeld.2.1)))))), ((cell_far (p := ⟨gb372, _, none⟩) NB322_372.out _).trans (((cell_far (p := ⟨gb372, _, none⟩) NB322_372.out _).trans (((cell_far (p := ⟨gb372, _, none⟩) NB322_372.out _).trans (hHeld.2.2))))))⟩ (fun hHeld => ?_)
          clear hK K
          refine pq_ 11 18 #[y_,y_,y_,y_,y_,y_,y_,y_,y_,y_,y_,y_] ?_
          refine done_ (done_of HT_.out (by kernel_rfl)) ?_
          have hnb72 := NB340_322.out
          have hnc72 := NB322_340.out
          have hnb73 := NB340_348.out
          have hnc73 := NB348_340.out
          have hnb74 := NB340_356.out
          have hnc74 := NB356_340.out
          have hnb75 := NB340_364.out
          have hnc75 := NB364_340.out
          have hnb76 := NB340_372.out
          have hnc76 := NB372_340.out
          obtain ⟨zc77_0, zc77_1, zc77_2, zf77_0, zf77_1, zf77_2⟩ := k3_ BK340
          have hnb78 := NB348_322.out
          have hnc78 := NB322_348.out
          have hnb79 := NB348_356.out
          have hnc79 := NB356_348.out
          have hnb80 := NB348_364.out
          have hnc80 := NB364_348.out
          have hnb81 := NB348_372.out
          have hnc81 := NB372_348.out
          obtain ⟨zc82_0, zc82_1, zc82_2, zf82_0, zf82_1, zf82_2⟩ := k3_ BK348
          have hnb83 := NB356_322.out
          have hnc83 := NB322_356.out
          have hnb84 := NB356_364.out
          have hnc84 := NB364_356.out
          have hnb85 := NB356_372.out
          have hnc85 := NB372_356.out
          obtain ⟨zc86_0, zc86_1, zc86_2, zf86_0, zf86_1, zf86_2⟩ := k3_ BK356
          have hnb87 := NB322_364.out
          have hnc87 := NB364_322.out
          have hnb88 := NB322_372.out
          have hnc88 := NB372_322.out
          obtain ⟨zc89_0, zc89_1, zc89_2, zf89_0, zf89_1, zf89_2⟩ := k3_ BK322
          have hnb90 := NB364_372.out
          have hnc90 := NB372_364.out
          obtain ⟨zc91_0, zc91_1, zc91_2, zf91_0, zf91_1, zf91_2⟩ := k3_ BK364
          obtain ⟨zc92_0, zc92_1, zc92_2, zf92_0, zf92_1, zf92_2⟩ := k3_ BK372
          try go_wp2_with (first | (go_at_call 19; (with_reducible refine (lockgatelaw14_works.calls k  t373 _ A24.out).mono ?_); rintro e w93 ⟨rfl, hb⟩; replace BK322 := Aside0.mk (blk_below (g := gb322) (o := .cells #[.int .i64 a0_0, .int .u64 a0_1, .int .i64 a0_2] 24 (0, 0)) (by (with_reducible repeat (first | apply bN_ | apply bD_ | apply bA_)); refine blk_far ?_ NB322_372.out _; (with_reducible repeat (first | apply bN_ | apply bD_ | apply bA_)); refine blk_far ?_ NB322_372.out _; (with_reducible repeat (first | apply bN_ | apply bD_ | apply bA_)); refine blk_far ?_ NB322_372.out _; exact bk_) hb); replace BK340 := Aside0.mk (blk_below (g := gb340) (o := .cells #[.int .i64 t336, .int .u64 t337, .int .i64 t338] 24 (0, 0)) (by (with_reducible repeat (first | apply bN_ | apply bD_ | apply bA_)); refine blk_far ?_ NB340_372.out _; (with_reducible repeat (first | apply bN_ | apply bD_ | apply bA_)); refine blk_far ?_ NB340_372.out _; (with_reducible repeat (first | apply bN_ | apply bD_ | apply bA_)); refine blk_far ?_ NB340_372.out _; exact bk_) hb); replace BK348 := Aside0.mk (blk_below (g := gb348) (o := .cells #[.int .i64 t344, .int .u64 t345, .int .i64 t346] 24 (0, 0)) (by (with_reducible repeat (first | apply bN_ | apply bD_ | apply bA_)); refine blk_far ?_ NB348_372.out _; (with_reducible repeat (first | apply bN_ | apply bD_ | apply bA_)); refine blk_far ?_ NB348_372.out _; (with_reducible repeat (first | apply bN_ | apply bD_ | apply bA_)); refine blk_far ?_ NB348_372.out _; exact bk_) hb); replace BK356 := Aside0.mk (blk_below (g := gb356) (o := .cells #[.int .i64 t352, .int .u64 t353, .int .i64 t354] 24 (0, 0)) (by (with_reducible repeat (first | apply bN_ | apply bD_ | apply bA_)); refine blk_far ?_ NB356_372.out _; (with_reducible repeat (first | apply bN_ | apply bD_ | apply bA_)); refine blk_far ?_ NB356_372.out _; (with_reducible repeat (first | apply bN_ | apply bD_ | apply bA_)); refine blk_far ?_ NB356_372.out _; exact bk_) hb); replace BK364 := Aside0.mk (blk_below (g := gb364) (o := .cells #[.int .i64 t360, .int .u64 t361, .int .i64 t362] 24 (0, 0)) (by (with_reducible repeat (first | apply bN_ | apply bD_ | apply bA_)); refine blk_far ?_ NB364_372.out _; (with_reducible repeat (first | apply bN_ | apply bD_ | apply bA_)); refine blk_far ?_ NB364_372.out _; (with_reducible repeat (first | apply bN_ | apply bD_ | apply bA_)); refine blk_far ?_ NB364_372.out _; exact bk_) hb); replace BK372 := Aside0.mk (blk_below (g := gb372) (o := .cells #[.int .i64 t368, .int .u64 t369, .int .i64 t370] 24 (0, 0)) (by (with_reducible repeat (first | apply bN_ | apply bD_ | apply bA_)); refine blk_put (cs := #[.int .i64 t368, .int .u64 t369, .int .i64 0]) ?_ 2 _ rfl; (with_reducible repeat (first | apply bN_ | apply bD_ | apply bA_)); refine blk_put (cs := #[.int .i64 t368, .int .u64 0, .int .i64 0]) ?_ 1 _ rfl; (with_reducible repeat (first | apply bN_ | apply bD_ | apply bA_)); refine blk_put (cs := #[.int .i64 0, .int .u64 0, .int .i64 0]) ?_ 0 _ rfl; exact bk_) hb); replace HB := bl_ hb; (try clear hb); (try clear hb2); (try clear hk); (try clear hi)))
          go_ret
          exact ⟨vv_, bz_⟩
         ·rw [if_neg c23] at H
          have c23b0 : (t360 == t368 && (t361 == t369 && (t362 == t370))) = false := by simpa using c23
          (try (have c23b1 : decide (t360 = t368 && (t361 == t369 && (t362 == t370))) = false := by simpa using c23))
          (try (have c23b2 : (t360 == t368 && (t361 == t369 && (t362 == t370))) = false := by simpa using c23))
          (try (have c23b3 : ¬ (t360 = t368 && (t361 == t369 && (t362 == t370))) := by simpa using c23))
          clear c23
          exact absurd ((Option.some.inj H).trans HRT.out) (by decide)
        ·rw [if_neg c22] at H
         have c22b0 : (t352 == a0_0 && (t353 == a0_1 && (t354 == a0_2))) = false := by simpa using c22
         (try (have c22b1 : decide (t352 = a0_0 && (t353 == a0_1 && (t354 == a0_2))) = false := by simpa using c22))
         (try (have c22b2 : (t352 == a0_0 && (t353 == a0_1 && (t354 == a0_2))) = false := by simpa using c22))
         (try (have c22b3 : ¬ (t352 = a0_0 && (t353 == a0_1 && (t354 == a0_2))) := by simpa using c22))
         clear c22
         exact absurd ((Option.some.inj H).trans HRT.out) (by decide)
       ·rw [if_neg c21] at H
        have c21b0 : (t336 == t344 && (t337 == t345 && (t338 == t346))) = false := by simpa using c21
        (try (have c21b1 : decide (t336 = t344 && (t337 == t345 && (t338 == t346))) = false := by simpa using c21))
        (try (have c21b2 : (t336 == t344 && (t337 == t345 && (t338 == t346))) = false := by simpa using c21))
        (try (have c21b3 : ¬ (t336 = t344 && (t337 == t345 && (t338 == t346))) := by simpa using c21))
        clear c21
        exact absurd ((Option.some.inj H).trans HRT.out) (by decide)
      ·rw [if_neg c20] at H
       have c20b0 : (t371 == 0) = false := beq_eq_false_iff_ne.mpr c20
       have c20b1 : (t371 != 0) = true := bne_iff_ne.mpr c20
       exact absurd ((Option.some.inj H).trans HRT.out) (by decide)
     ·rw [if_neg c19] at H
      have c19b0 : (t363 == 0) = false := beq_eq_false_iff_ne.mpr c19
      have c19b1 : (t363 != 0) = true := bne_iff_ne.mpr c19
      exact absurd ((Option.some.inj H).trans HRT.out) (by decide)
    ·rw [if_neg c18] at H
     have c18b0 : (t355 == 0) = false := beq_eq_false_iff_ne.mpr c18
     have c18b1 : (t355 != 0) = true := bne_iff_ne.mpr c18
     exact absurd ((Option.some.inj H).trans HRT.out) (by decide)
   ·rw [if_neg c17] at H
    have c17b0 : (t347 == 0) = false := beq_eq_false_iff_ne.mpr c17
    have c17b1 : (t347 != 0) = true := bne_iff_ne.mpr c17
    exact absurd ((Option.some.inj H).trans HRT.out) (by decide)
  ·rw [if_neg c16] at H
   have c16b0 : (t339 == 0) = false := beq_eq_false_iff_ne.mpr c16
   have c16b1 : (t339 != 0) = true := bne_iff_ne.mpr c16
   exact absurd ((Option.some.inj H).trans HRT.out) (by decide)
 ·replace c5 := Bool.eq_false_iff.mpr c5
  subst c5
  have H1 : ((value_Num.f a1).bind fun bt324 => ((value_Alu.f k 1 true a0_0 a0_1 a0_2 bt324.1 bt324.2.1 bt324.2.2).bind fun bt327 => (if ((bt327.2.2.2 == 0) == (a0_0 == 1)) = true then ((lockgatelaw14_works.f k).bind fun t332 => (some t332)) else (some false)))) = some r := by rw [if_neg (show ¬ (false = true) by decide)] at H; exact H
  clear H
  have H := H1
  clear H1
  replace H := Option.bind_eq_some_iff.mp H
  obtain ⟨⟨t324, t325, t326⟩, A940, H⟩ := H
  replace H : ((value_Alu.f k 1 true a0_0 a0_1 a0_2 t324 t325 t326).bind fun bt327 => (if ((bt327.2.2.2 == 0) == (a0_0 == 1)) = true then ((lockgatelaw14_works.f k).bind fun t332 => (some t332)) else (some false))) = some r := H
  have A94 := Aside0.mk A940
  clear A940
  replace H := Option.bind_eq_some_iff.mp H
  obtain ⟨⟨t327, t328, t329, t330⟩, A950, H⟩ := H
  replace H : (if ((t330 == 0) == (a0_0 == 1)) = true then ((lockgatelaw14_works.f k).bind fun t332 => (some t332)) else (some false)) = some r := H
  have A95 := Aside0.mk A950
  clear A950
  by_cases c96 : ((t330 == 0) == (a0_0 == 1)) = true
  ·rw [if_pos c96] at H
   have c96b0 : ((t330 == 0) == (a0_0 == 1)) = true := c96
   (try (have c96b1 : decide ((t330 == 0) = (a0_0 == 1)) = true := by simpa using c96))
   (try (have c96b2 : ((t330 == 0) == (a0_0 == 1)) = true := by simpa using c96))
   clear c96
   replace H := Option.bind_eq_some_iff.mp H
   obtain ⟨t332, A970, H⟩ := H
   replace H : (some t332) = some r := H
   have A97 := Aside0.mk A970
   clear A970
   obtain rfl := Option.some.inj H
   go_enter Try.func6, Try.ntmps6
   try go_wp2_with (first | ((with_reducible refine gate_dst (N := 3) rfl ?_); refine bx_ 3 #[.int .i64 a0_0, .int .u64 a0_1, .int .i64 a0_2] 24 ?_; intro gb322 hg w98 BK322 hb; have GW322 := bg_ hg; have GE322 := GW322; replace HB := bl_ hb; clear hb hg; obtain ⟨zc99_0, zc99_1, zc99_2, zf99_0, zf99_1, zf99_2⟩ := k3_ BK322) | ((with_reducible refine gate_callee (f := 13) rfl ?_); refine gM_ 20 Try.func13 (value_Places.calls a0_0 a0_1 a0_2 false _ A4.out) ?_; intro w100 hb; replace BK322 := bb_ hb BK322; replace HB := bl_ hb; (try clear hb); (try clear hb2); (try clear hk); (try clear hi)))
   replace BK322 := Aside0.mk (blk_drew BK322.out)
   replace HB := Aside0.mk (below_drew1 HB.out)
   refine start_ (n := 10) (S := fun w' => w'.cell? ⟨gb322, 0, none⟩ = some (.int .i64 a0_0) ∧ w'.cell? ⟨gb322, 1, none⟩ = some (.int .u64 a0_1) ∧ w'.cell? ⟨gb322, 2, none⟩ = some (.int .i64 a0_2)) (ds := []) #[n_,n_,n_,n_,n_,n_,n_,n_,n_,n_] (by kernel_rfl) rfl rfl ⟨c0_ BK322, c1_ BK322, c2_ BK322⟩ (fun hHeld => ?_); refine with_tabW lockgatelaw14_ValueBack.tab2 lockgatelaw14_ValueBack.bits2 (fun HT_ HW_ => ?_)
   generalize w100.drew = w101 at BK322 HB hHeld ⊢
   refine pq_ 1 24 #[n_,y_,n_,n_,n_,n_,n_,n_,n_,n_] ?_
   refine tq2_ 0 23 #[y_,y_,n_,n_,n_,n_,n_,n_,n_,n_] hHeld ?_
   refine join_ (σ := Nat) 2 #[y_,y_,y_,y_,y_,y_,y_,y_,n_,n_] (fun s_ => [(25, .agg #[.int .i64 t324, .int .u64 t325, .int .i64 t326]), (26, .tuple #[.agg #[.int .i64 t327, .int .u64 t328, .int .i64 t329], .int .i64 t330]), (7, .pointer (some ⟨s_, 0, none⟩)), (22, .tuple #[.agg #[.int .i64 t327, .int .u64 t328, .int .i64 t329], .int .i64 t330]), (27, .agg #[.int .i64 t327, .int .u64 t328, .int .i64 t329]), (28, .int .i64 t330)]) (fun s_ w' => (w'.cell? ⟨gb322, 0, none⟩ = some (.int .i64 a0_0) ∧ w'.cell? ⟨gb322, 1, none⟩ = some (.int .u64 a0_1) ∧ w'.cell? ⟨gb322, 2, none⟩ = some (.int .i64 a0_2)) ∧ (w'.heap[gb322]? = some (.cells #[.int .i64 a0_0, .int .u64 a0_1, .int .i64 a0_2] 24 (0, 0))) ∧ (w'.heap[s_]? = some (.cells #[.int .i64 0, .int .u64 0, .int .i64 0] 24 (0, 0))) ∧ (w.heap.size ≤ s_) ∧ (w.heap.size ≤ s_) ∧ (gb322 ≠ s_) ∧ (s_ ≠ gb322) ∧ (Below w.heap.size w w')) ?_ ?_
   rotate_left
   ·intro hCont
    refine two_ (i := 2) (j := 7) (Ni := some 25) (Nj := some 7) #[y_,y_,y_,n_,n_,n_,n_,n_,n_,n_] #[y_,y_,n_,n_,n_,n_,n_,y_,n_,n_] rfl rfl rfl rfl (two_of HT_.out (by kernel_rfl)) (by decide) (by decide) (fun K hK => ?_) (fun K hK => ?_)
    ·skip
     refine goes_ Try.func15 (by kernel_rfl) rfl #[.int .u64 a1] (by rfl) rfl rfl mp_ ?_
     with_reducible refine (value_Num.calls a1 t324 t325 t326 _ A94.out).mono ?_
     rintro e w102 ⟨rfl, hb⟩
     refine ⟨_, rfl, ?_⟩
     replace BK322 := bb_ hb BK322
     replace HB := bl_ hb
     try clear hb
     refine hK.out _ _ ⟨c0_ BK322, c1_ BK322, c2_ BK322⟩ (fun hHeld => ?_)
     clear hK K
     refine norm_ (a' := ?_) ?_ ?_
     rotate_left
     ·show Act.put _ (some 25) _ = _
      simp only [Act.put, s1_, s2_, s3_, i64_w, i32_w]
      rfl
     refine two_ (i := 3) (j := 7) (Ni := some 26) (Nj := some 7) #[y_,y_,y_,y_,n_,n_,n_,n_,n_,n_] #[y_,y_,y_,n_,n_,n_,n_,y_,n_,n_] rfl rfl rfl rfl (two_of HT_.out (by kernel_rfl)) (by decide) (by decide) (fun K hK => ?_) (fun K hK => ?_)
     ·skip
      refine goes_ Try.func11 (by kernel_rfl) rfl #[.int .i64 1, .bool true, .agg #[.int .i64 a0_0, .int .u64 a0_1, .int .i64 a0_2], .agg #[.int .i64 t324, .int .u64 t325, .int .i64 t326]] (by rfl) rfl rfl mp_ ?_
      with_reducible refine (value_Alu.calls k 1 true a0_0 a0_1 a0_2 t324 t325 t326 t327 t328 t329 t330 _ A95.out).mono ?_
      rintro e w103 ⟨rfl, hb⟩
      refine ⟨_, rfl, ?_⟩
      replace BK322 := bb_ hb BK322
      replace HB := bl_ hb
      try clear hb
      refine hK.out _ _ ⟨c0_ BK322, c1_ BK322, c2_ BK322⟩ (fun hHeld => ?_)
      clear hK K
      refine norm_ (a' := ?_) ?_ ?_
      rotate_left
      ·show Act.put _ (some 26) _ = _
       simp only [Act.put, s1_, s2_, s3_, i64_w, i32_w]
       rfl
      refine pq_ 4 22 #[y_,y_,y_,y_,y_,n_,n_,n_,n_,n_] ?_
      refine pq_ 5 27 #[y_,y_,y_,y_,y_,y_,n_,n_,n_,n_] ?_
      refine pq_ 6 28 #[y_,y_,y_,y_,y_,y_,y_,n_,n_,n_] ?_
      refine one_ (i := 7) (N := some 7) #[y_,y_,y_,y_,y_,y_,y_,y_,n_,n_] rfl rfl (one_of HT_.out (by kernel_rfl)) (by decide) (fun K hK => ?_)
      refine box_step ?hg (N := 7) ?hd (cs := #[.int .i64 0, .int .u64 0, .int .i64 0]) (t := 24) ?hr ?_; (case hd => rfl); (case hg => rfl); (case hr => first | (go_simp; done) | (go_simp; rfl))
      intro gb331 hg w104 hbox hb
      have BK331 := Aside0.mk (hbox)
      have GW331 := bg_ hg
      have GE331 := GW331
      have NB322_331 := bm_ hg BK322
      have NB331_322 := bn_ hg BK322
      replace BK322 := bb_ hb BK322
      replace HB := bl_ hb
      clear hb hbox hg
      refine hK.out _ _ ⟨c0_ BK322, c1_ BK322, c2_ BK322⟩ (fun hHeld => ?_)
      clear hK K
      refine norm_ (a' := ?_) ?_ ?_
      rotate_left
      ·show Act.put _ (some 7) _ = _
       simp only [Act.put, s1_, s2_, s3_, i64_w, i32_w]
       rfl
      exact norm_ (by simp only [putAll, Act.put, List.setIfInBounds_toArray, List.set_cons_zero, List.set_cons_succ]) (hCont (gb331) _ ⟨hHeld, bk_, bk_, GW331.out, GE331.out, NB322_331.out, NB331_322.out, bz_⟩)
     ·skip
      refine box_step ?hg (N := 7) ?hd (cs := #[.int .i64 0, .int .u64 0, .int .i64 0]) (t := 24) ?hr ?_; (case hd => rfl); (case hg => rfl); (case hr => first | (go_simp; done) | (go_simp; rfl))
      intro gb331 hg w103 hbox hb
      have BK331 := Aside0.mk (hbox)
      have GW331 := bg_ hg
      have GE331 := GW331
      have NB322_331 := bm_ hg BK322
      have NB331_322 := bn_ hg BK322
      replace BK322 := bb_ hb BK322
      replace HB := bl_ hb
      clear hb hbox hg
      refine hK.out _ _ ⟨c0_ BK322, c1_ BK322, c2_ BK322⟩ (fun hHeld => ?_)
      clear hK K
      refine norm_ (a' := ?_) ?_ ?_
      rotate_left
      ·show Act.put _ (some 7) _ = _
       simp only [Act.put, s1_, s2_, s3_, i64_w, i32_w]
       rfl
      refine one_ (i := 3) (N := some 26) #[y_,y_,y_,y_,n_,n_,n_,y_,n_,n_] rfl rfl (one_of HT_.out (by kernel_rfl)) (by decide) (fun K hK => ?_)
      refine goes_ Try.func11 (by kernel_rfl) rfl #[.int .i64 1, .bool true, .agg #[.int .i64 a0_0, .int .u64 a0_1, .int .i64 a0_2], .agg #[.int .i64 t324, .int .u64 t325, .int .i64 t326]] (by rfl) rfl rfl mp_ ?_
      with_reducible refine (value_Alu.calls k 1 true a0_0 a0_1 a0_2 t324 t325 t326 t327 t328 t329 t330 _ A95.out).mono ?_
      rintro e w104 ⟨rfl, hb⟩
      refine ⟨_, rfl, ?_⟩
      replace BK322 := bb_ hb BK322
      replace BK331 := bb_ hb BK331
      replace HB := bl_ hb
      try clear hb
      refine hK.out _ _ ⟨c0_ BK322, c1_ BK322, c2_ BK322⟩ (fun hHeld => ?_)
      clear hK K
      refine norm_ (a' := ?_) ?_ ?_
      rotate_left
      ·show Act.put _ (some 26) _ = _
       simp only [Act.put, s1_, s2_, s3_, i64_w, i32_w]
       rfl
      refine pq_ 4 22 #[y_,y_,y_,y_,y_,n_,n_,y_,n_,n_] ?_
      refine pq_ 5 27 #[y_,y_,y_,y_,y_,y_,n_,y_,n_,n_] ?_
      refine pq_ 6 28 #[y_,y_,y_,y_,y_,y_,y_,y_,n_,n_] ?_
      exact norm_ (by simp only [putAll, Act.put, List.setIfInBounds_toArray, List.set_cons_zero, List.set_cons_succ]) (hCont (gb331) _ ⟨hHeld, bk_, bk_, GW331.out, GE331.out, NB322_331.out, NB331_322.out, bz_⟩)
    ·skip
     refine box_step ?hg (N := 7) ?hd (cs := #[.int .i64 0, .int .u64 0, .int .i64 0]) (t := 24) ?hr ?_; (case hd => rfl); (case hg => rfl); (case hr => first | (go_simp; done) | (go_simp; rfl))
     intro gb331 hg w102 hbox hb
     have BK331 := Aside0.mk (hbox)
     have GW331 := bg_ hg
     have GE331 := GW331
     have NB322_331 := bm_ hg BK322
     have NB331_322 := bn_ hg BK322
     replace BK322 := bb_ hb BK322
     replace HB := bl_ hb
     clear hb hbox hg
     refine hK.out _ _ ⟨c0_ BK322, c1_ BK322, c2_ BK322⟩ (fun hHeld => ?_)
     clear hK K
     refine norm_ (a' := ?_) ?_ ?_
     rotate_left
     ·show Act.put _ (some 7) _ = _
      simp only [Act.put, s1_, s2_, s3_, i64_w, i32_w]
      rfl
     refine one_ (i := 2) (N := some 25) #[y_,y_,y_,n_,n_,n_,n_,y_,n_,n_] rfl rfl (one_of HT_.out (by kernel_rfl)) (by decide) (fun K hK => ?_)
     refine goes_ Try.func15 (by kernel_rfl) rfl #[.int .u64 a1] (by rfl) rfl rfl mp_ ?_
     with_reducible refine (value_Num.calls a1 t324 t325 t326 _ A94.out).mono ?_
     rintro e w103 ⟨rfl, hb⟩
     refine ⟨_, rfl, ?_⟩
     replace BK322 := bb_ hb BK322
     replace BK331 := bb_ hb BK331
     replace HB := bl_ hb
     try clear hb
     refine hK.out _ _ ⟨c0_ BK322, c1_ BK322, c2_ BK322⟩ (fun hHeld => ?_)
     clear hK K
     refine norm_ (a' := ?_) ?_ ?_
     rotate_left
     ·show Act.put _ (some 25) _ = _
      simp only [Act.put, s1_, s2_, s3_, i64_w, i32_w]
      rfl
     refine one_ (i := 3) (N := some 26) #[y_,y_,y_,y_,n_,n_,n_,y_,n_,n_] rfl rfl (one_of HT_.out (by kernel_rfl)) (by decide) (fun K hK => ?_)
     refine goes_ Try.func11 (by kernel_rfl) rfl #[.int .i64 1, .bool true, .agg #[.int .i64 a0_0, .int .u64 a0_1, .int .i64 a0_2], .agg #[.int .i64 t324, .int .u64 t325, .int .i64 t326]] (by rfl) rfl rfl mp_ ?_
     with_reducible refine (value_Alu.calls k 1 true a0_0 a0_1 a0_2 t324 t325 t326 t327 t328 t329 t330 _ A95.out).mono ?_
     rintro e w104 ⟨rfl, hb⟩
     refine ⟨_, rfl, ?_⟩
     replace BK322 := bb_ hb BK322
     replace BK331 := bb_ hb BK331
     replace HB := bl_ hb
     try clear hb
     refine hK.out _ _ ⟨c0_ BK322, c1_ BK322, c2_ BK322⟩ (fun hHeld => ?_)
     clear hK K
     refine norm_ (a' := ?_) ?_ ?_
     rotate_left
     ·show Act.put _ (some 26) _ = _
      simp only [Act.put, s1_, s2_, s3_, i64_w, i32_w]
      rfl
     refine pq_ 4 22 #[y_,y_,y_,y_,y_,n_,n_,y_,n_,n_] ?_
     refine pq_ 5 27 #[y_,y_,y_,y_,y_,y_,n_,y_,n_,n_] ?_
     refine pq_ 6 28 #[y_,y_,y_,y_,y_,y_,y_,y_,n_,n_] ?_
     exact norm_ (by simp only [putAll, Act.put, List.setIfInBounds_toArray, List.set_cons_zero, List.set_cons_succ]) (hCont (gb331) _ ⟨hHeld, bk_, bk_, GW331.out, GE331.out, NB322_331.out, NB331_322.out, bz_⟩)
   rintro gb331 w105 ⟨hS_, h0_, h1_, h2_, h3_, h4_, h5_, h6_⟩
   have n0_ : Aside0 (w105.heap[gb322]? = some (.cells #[.int .i64 a0_0, .int .u64 a0_1, .int .i64 a0_2] 24 (0, 0))) := ⟨h0_⟩
   have n1_ : Aside0 (w105.heap[gb331]? = some (.cells #[.int .i64 0, .int .u64 0, .int .i64 0] 24 (0, 0))) := ⟨h1_⟩
   have n2_ : Aside0 (w.heap.size ≤ gb331) := ⟨h2_⟩
   have n3_ : Aside0 (w.heap.size ≤ gb331) := ⟨h3_⟩
   have n4_ : Aside0 (gb322 ≠ gb331) := ⟨h4_⟩
   have n5_ : Aside0 (gb331 ≠ gb322) := ⟨h5_⟩
   have n6_ : Aside0 (Below w.heap.size w w105) := ⟨h6_⟩
   clear BK322
   clear HB
   clear h0_ h1_ h2_ h3_ h4_ h5_ h6_
   have BK322 := n0_
   have BK331 := n1_
   have GW331 := n2_
   have GE331 := n3_
   have NB322_331 := n4_
   have NB331_322 := n5_
   have HB := n6_
   clear n0_ n1_ n2_ n3_ n4_ n5_ n6_
   have hHeld : w105.cell? ⟨gb322, 0, none⟩ = some (.int .i64 a0_0) ∧ w105.cell? ⟨gb322, 1, none⟩ = some (.int .u64 a0_1) ∧ w105.cell? ⟨gb322, 2, none⟩ = some (.int .i64 a0_2) := hS_
   refine norm_ (a' := ?_) ?_ ?_
   rotate_left
   ·simp only [putAll, Act.put, List.setIfInBounds_toArray, List.set_cons_zero, List.set_cons_succ]
    rfl
   refine one_ (i := 8) (N := none) #[y_,y_,y_,y_,y_,y_,y_,y_,y_,n_] rfl rfl (one_of HT_.out (by kernel_rfl)) (by decide) (fun K hK => ?_)
   obtain ⟨hs106, hfs106⟩ := k1_ BK331
   have hns106_0 := NB322_331.out
   have hms106_0 := NB331_322.out
   have hs107 := c1_ BK331
   have hfs107 := fz_ BK331 1
   have hns107_0 := NB322_331.out
   have hms107_0 := NB331_322.out
   have hs108 := c2_ BK331
   have hfs108 := fz_ BK331 2
   have hns108_0 := NB322_331.out
   have hms108_0 := NB331_322.out
   refine skip_ (w1 := ?_) (by rfl) rfl ?_ ?_
   rotate_left
   ·go_simp
    rfl
   refine hK.out _ _ ⟨((cell_far (p := ⟨gb331, _, none⟩) NB322_331.out _).trans (((cell_far (p := ⟨gb331, _, none⟩) NB322_331.out _).trans (((cell_far (p := ⟨gb331, _, none⟩) NB322_331.out _).trans (hHeld.1)))))), ((cell_far (p := ⟨gb331, _, none⟩) NB322_331.out _).trans (((cell_far (p := ⟨gb331, _, none⟩) NB322_331.out _).trans (((cell_far (p := ⟨gb331, _, none⟩) NB322_331.out _).trans (hHeld.2.1)))))), ((cell_far (p := ⟨gb331, _, none⟩) NB322_331.out _).trans (((cell_far (p := ⟨gb331, _, none⟩) NB322_331.out _).trans (((cell_far (p := ⟨gb331, _, none⟩) NB322_331.out _).trans (hHeld.2.2))))))⟩ (fun hHeld => ?_)
   clear hK K
   refine pq_ 9 8 #[y_,y_,y_,y_,y_,y_,y_,y_,y_,y_] ?_
   refine done_ (done_of HT_.out (by kernel_rfl)) ?_
   have hnb109 := NB322_331.out
   have hnc109 := NB331_322.out
   obtain ⟨zc110_0, zc110_1, zc110_2, zf110_0, zf110_1, zf110_2⟩ := k3_ BK322
   try go_wp2_with (first | (go_at_call 19; (with_reducible refine (lockgatelaw14_works.calls k  t332 _ A97.out).mono ?_); rintro e w111 ⟨rfl, hb⟩; replace BK322 := Aside0.mk (blk_below (g := gb322) (o := .cells #[.int .i64 a0_0, .int .u64 a0_1, .int .i64 a0_2] 24 (0, 0)) (by (with_reducible repeat (first | apply bN_ | apply bD_ | apply bA_)); refine blk_far ?_ NB322_331.out _; (with_reducible repeat (first | apply bN_ | apply bD_ | apply bA_)); refine blk_far ?_ NB322_331.out _; (with_reducible repeat (first | apply bN_ | apply bD_ | apply bA_)); refine blk_far ?_ NB322_331.out _; exact bk_) hb); replace BK331 := Aside0.mk (blk_below (g := gb331) (o := .cells #[.int .i64 t327, .int .u64 t328, .int .i64 t329] 24 (0, 0)) (by (with_reducible repeat (first | apply bN_ | apply bD_ | apply bA_)); refine blk_put (cs := #[.int .i64 t327, .int .u64 t328, .int .i64 0]) ?_ 2 _ rfl; (with_reducible repeat (first | apply bN_ | apply bD_ | apply bA_)); refine blk_put (cs := #[.int .i64 t327, .int .u64 0, .int .i64 0]) ?_ 1 _ rfl; (with_reducible repeat (first | apply bN_ | apply bD_ | apply bA_)); refine blk_put (cs := #[.int .i64 0, .int .u64 0, .int .i64 0]) ?_ 0 _ rfl; exact bk_) hb); replace HB := bl_ hb; (try clear hb); (try clear hb2); (try clear hk); (try clear hi)))
   go_ret
   exact ⟨vv_, bz_⟩
  ·rw [if_neg c96] at H
   have c96b0 : ((t330 == 0) == (a0_0 == 1)) = false := by simpa using c96
   (try (have c96b1 : decide ((t330 == 0) = (a0_0 == 1)) = false := by simpa using c96))
   (try (have c96b2 : ((t330 == 0) == (a0_0 == 1)) = false := by simpa using c96))
   (try (have c96b3 : ¬ ((t330 == 0) = (a0_0 == 1)) := by simpa using c96))
   clear c96
   exact absurd ((Option.some.inj H).trans HRT.out) (by decide)

end Go.Proofs.Ytnpbhippkcikoaa.PA
