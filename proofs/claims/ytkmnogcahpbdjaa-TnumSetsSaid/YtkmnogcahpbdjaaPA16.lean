-- PRINTED by print.py (a twelfth state) out of the translation. Not trusted: Lean checks it.
import Derived.Test.YtkmnogcahpbdjaaPA0
import Derived.Test.YtkmnogcahpbdjaaPA1
import Derived.Test.YtkmnogcahpbdjaaPA2
import Derived.Test.YtkmnogcahpbdjaaPA4
import Derived.Test.YtkmnogcahpbdjaaPA7
import Derived.Test.YtkmnogcahpbdjaaPA8
import Derived.Test.YtkmnogcahpbdjaaPA9
import Derived.Test.YtkmnogcahpbdjaaPA10
import Derived.Test.YtkmnogcahpbdjaaPA13
namespace Go.Proofs.Ytkmnogcahpbdjaa.PA
open Go.RowKit Go.Proofs.YtkmnogcahpbdjaaW.PrintWords Go.Proofs.YtkmnogcahpbdjaaW.PrintLast Go.Proofs.YtkmnogcahpbdjaaW.PrintMore
attribute [local go_sem] max2_int min2_int max_two min_two max_three min_three max_four min_four   -- for this text's walks alone
set_option linter.defProp false
def bN_16 := @blk_drewN
def bD_16 := @blk_drew
def bA_16 := @blk_alloc
def lA_16 := @below_alloc
def lN_16 := @pw_below_drewN
def lD_16 := @below_drew1
def lS_16 := @below_set
set_option linter.unusedVariables false
set_option linter.unusedSimpArgs false

attribute [local go_sem high] eqA24
/-! ### lockgatelaw03_TnumSets: function 5 -/
def lockgatelaw03_TnumSets.f (k : Nat) (a0_0 : Int) (a0_1 : Int) (a1_0 : Int) (a1_1 : Int) (a2 : Int) : Option (Bool) := (lockgatelaw03_May.f a0_0 a0_1).bind fun bt253 => ((lockgatelaw03_May.f a1_0 a1_1).bind fun bt255 => ((tnum_Meet.f bt253.1 bt253.2 bt255.1 bt255.2).bind fun bt257 => ((lockgateref03_Meet.f k bt253.1 bt253.2 bt255.1 bt255.2).bind fun bt261 => ((tnum_Of.f a2).bind fun bt265 => ((lockgateref03_Of.f a2).bind fun bt267 => (if (bt265.1 == bt267.1 && (bt265.2 == bt267.2)) = true then ((tnum_Any.f).bind fun bt269 => ((lockgateref03_Any.f).bind fun bt271 => (if (bt269.1 == bt271.1 && (bt269.2 == bt271.2)) = true then ((tnum_In.f bt253.1 bt253.2 a2).bind fun t273 => ((lockgateref03_In.f k bt253.1 bt253.2 a2).bind fun t274 => (if (t273 == t274) = true then ((tnum_Within.f bt253.1 bt253.2 bt255.1 bt255.2).bind fun t275 => ((lockgateref03_Within.f k bt253.1 bt253.2 bt255.1 bt255.2).bind fun t276 => (if (t275 == t276) = true then ((tnum_Join.f bt253.1 bt253.2 bt255.1 bt255.2).bind fun bt277 => ((lockgateref03_Join.f k bt253.1 bt253.2 bt255.1 bt255.2).bind fun bt279 => (if (bt277.1 == bt279.1 && (bt277.2 == bt279.2)) = true then (if (bt257.1 == bt261.1 && (bt257.2.1 == bt261.2.1)) = true then (if (bt257.2.2 == bt261.2.2) = true then ((lockgatelaw03_known.f k).bind fun t281 => (some t281)) else (some false)) else (some false)) else (some false)))) else (some false)))) else (some false)))) else (some false)))) else (some false)))))))
theorem lockgatelaw03_TnumSets.mono : ∀ a0 a1 a2 a3 a4 k, LeO (lockgatelaw03_TnumSets.f k a0 a1 a2 a3 a4) (lockgatelaw03_TnumSets.f (k + 1) a0 a1 a2 a3 a4) := by
  intro a0 a1 a2 a3 a4 k
  unfold lockgatelaw03_TnumSets.f
  repeat' first
      | (with_reducible exact lockgatelaw03_known.mono _)
      | (with_reducible exact lockgateref03_In.mono _ _ _ _)
      | (with_reducible exact lockgateref03_Join.mono _ _ _ _ _)
      | (with_reducible exact lockgateref03_Meet.mono _ _ _ _ _)
      | (with_reducible exact lockgateref03_Within.mono _ _ _ _ _)
      | (with_reducible exact LeO.refl _)
      | (with_reducible exact LeO.none _)
      | (with_reducible refine LeO.ite ?_ ?_)
      | (with_reducible refine LeO.bind ?_ (fun _ => ?_))
      | exact lockgatelaw03_known.mono _
      | exact lockgateref03_In.mono _ _ _ _
      | exact lockgateref03_Join.mono _ _ _ _ _
      | exact lockgateref03_Meet.mono _ _ _ _ _
      | exact lockgateref03_Within.mono _ _ _ _ _
      | exact LeO.none _
      | refine LeO.ite ?_ ?_
      | refine LeO.bind ?_ (fun _ => ?_)
def lockgatelaw03_TnumSets.T5 : Bool × List (List Nat × List Nat) := (true, [([], []), ([0], [0]), ([], []), ([2, 1], [2]), ([1, 3], [1, 3]), ([4, 3], [4]), ([5, 5], [5]), ([6, 5], [5]), ([6, 7, 5], [5, 6, 7]), ([5, 8], [5, 8]), ([9, 7], [9]), ([10], [10]), ([10], [10]), ([11, 12, 10, 10], [10, 11, 12]), ([10], [10]), ([10], [10]), ([14, 15, 13, 10], [10, 14, 15]), ([13, 16, 10], [10, 13, 16]), ([10, 17], [10, 17]), ([18, 16], [18]), ([19], [19]), ([19], [19]), ([20, 21, 19, 19], [19, 20, 21]), ([19], [19]), ([19], [19]), ([23, 24, 22, 19], [19, 23, 24]), ([22, 25, 19], [19, 22, 25]), ([19, 26], [19, 26]), ([27, 25], [27]), ([28], [28]), ([28], [28]), ([29, 30, 28, 28], [28, 29, 30]), ([28], [28]), ([28], [28]), ([32, 33, 31, 28], [28, 32, 33]), ([31, 34, 28], [28, 31, 34]), ([28, 35], [28, 35]), ([36, 34], [36]), ([37], [37]), ([37], [37]), ([38, 39, 37], [37, 38, 39]), ([37, 40], [37, 40]), ([41, 37], [41]), ([42], [42]), ([42], [42]), ([43, 44, 42], [42, 43, 44]), ([42, 45], [42, 45]), ([46, 42], [46]), ([47, 47], [47]), ([47, 48], [47, 48]), ([49, 48, 0, 1, 2, 3, 4, 5, 6, 7, 8, 9, 10, 11, 12, 13, 14, 15, 16, 17, 18, 19, 20, 21, 22, 23, 24, 25, 26, 27, 28, 29, 30, 31, 32, 33, 34, 35, 36, 37, 38, 39, 40, 41, 42, 43, 44, 45, 46, 47, 48, 49], [49])])
def lockgatelaw03_TnumSets.B5 : List Nat := [0, 1, 0, 7, 15, 31, 63, 127, 255, 511, 1023, 2047, 2047, 8191, 2047, 2047, 65535, 131071, 262143, 524287, 1048575, 1048575, 4194303, 1048575, 1048575, 33554431, 67108863, 134217727, 268435455, 536870911, 536870911, 2147483647, 536870911, 536870911, 17179869183, 34359738367, 68719476735, 137438953471, 274877906943, 274877906943, 1099511627775, 2199023255551, 4398046511103, 8796093022207, 8796093022207, 35184372088831, 70368744177663, 140737488355327, 281474976710655, 562949953421311, 1125899906842623]
theorem lockgatelaw03_TnumSets.tab5 : rtab .any (opsOf Try.f5 5) = lockgatelaw03_TnumSets.T5 := by kernel_rfl
theorem lockgatelaw03_TnumSets.bits5 : waitsOk lockgatelaw03_TnumSets.T5.2 lockgatelaw03_TnumSets.B5 = true := by kernel_rfl
set_option maxHeartbeats 8000000 in
set_option maxRecDepth 100000 in
theorem lockgatelaw03_TnumSets.calls (k : Nat) (a0_0 : Int) (a0_1 : Int) (a1_0 : Int) (a1_1 : Int) (a2 : Int) (r : Bool) (w : World) (HRT : Aside0 (r = true)) (h : lockgatelaw03_TnumSets.f k a0_0 a0_1 a1_0 a1_1 a2 = some r) :
    Calls Try.prog 5 #[.agg #[.int .u64 a0_0, .int .u64 a0_1], .agg #[.int .u64 a1_0, .int .u64 a1_1], .int .u64 a2] w fun e w' => e = .returned (.bool r) ∧ Below w.heap.size w w' := by
  have hu24 := Try.underlying24
  have HB := Aside0.mk (Below.refl w.heap.size w)
  have H : ((lockgatelaw03_May.f a0_0 a0_1).bind fun bt253 => ((lockgatelaw03_May.f a1_0 a1_1).bind fun bt255 => ((tnum_Meet.f bt253.1 bt253.2 bt255.1 bt255.2).bind fun bt257 => ((lockgateref03_Meet.f k bt253.1 bt253.2 bt255.1 bt255.2).bind fun bt261 => ((tnum_Of.f a2).bind fun bt265 => ((lockgateref03_Of.f a2).bind fun bt267 => (if (bt265.1 == bt267.1 && (bt265.2 == bt267.2)) = true then ((tnum_Any.f).bind fun bt269 => ((lockgateref03_Any.f).bind fun bt271 => (if (bt269.1 == bt271.1 && (bt269.2 == bt271.2)) = true then ((tnum_In.f bt253.1 bt253.2 a2).bind fun t273 => ((lockgateref03_In.f k bt253.1 bt253.2 a2).bind fun t274 => (if (t273 == t274) = true then ((tnum_Within.f bt253.1 bt253.2 bt255.1 bt255.2).bind fun t275 => ((lockgateref03_Within.f k bt253.1 bt253.2 bt255.1 bt255.2).bind fun t276 => (if (t275 == t276) = true then ((tnum_Join.f bt253.1 bt253.2 bt255.1 bt255.2).bind fun bt277 => ((lockgateref03_Join.f k bt253.1 bt253.2 bt255.1 bt255.2).bind fun bt279 => (if (bt277.1 == bt279.1 && (bt277.2 == bt279.2)) = true then (if (bt257.1 == bt261.1 && (bt257.2.1 == bt261.2.1)) = true then (if (bt257.2.2 == bt261.2.2) = true then ((lockgatelaw03_known.f k).bind fun t281 => (some t281)) else (some false)) else (some false)) else (some false)))) else (some false)))) else (some false)))) else (some false)))) else (some false)))))))) = some r := h
  clear h
  replace H := Option.bind_eq_some_iff.mp H
  obtain ⟨⟨t253, t254⟩, A40, H⟩ := H
  replace H : ((lockgatelaw03_May.f a1_0 a1_1).bind fun bt255 => ((tnum_Meet.f t253 t254 bt255.1 bt255.2).bind fun bt257 => ((lockgateref03_Meet.f k t253 t254 bt255.1 bt255.2).bind fun bt261 => ((tnum_Of.f a2).bind fun bt265 => ((lockgateref03_Of.f a2).bind fun bt267 => (if (bt265.1 == bt267.1 && (bt265.2 == bt267.2)) = true then ((tnum_Any.f).bind fun bt269 => ((lockgateref03_Any.f).bind fun bt271 => (if (bt269.1 == bt271.1 && (bt269.2 == bt271.2)) = true then ((tnum_In.f t253 t254 a2).bind fun t273 => ((lockgateref03_In.f k t253 t254 a2).bind fun t274 => (if (t273 == t274) = true then ((tnum_Within.f t253 t254 bt255.1 bt255.2).bind fun t275 => ((lockgateref03_Within.f k t253 t254 bt255.1 bt255.2).bind fun t276 => (if (t275 == t276) = true then ((tnum_Join.f t253 t254 bt255.1 bt255.2).bind fun bt277 => ((lockgateref03_Join.f k t253 t254 bt255.1 bt255.2).bind fun bt279 => (if (bt277.1 == bt279.1 && (bt277.2 == bt279.2)) = true then (if (bt257.1 == bt261.1 && (bt257.2.1 == bt261.2.1)) = true then (if (bt257.2.2 == bt261.2.2) = true then ((lockgatelaw03_known.f k).bind fun t281 => (some t281)) else (some false)) else (some false)) else (some false)))) else (some false)))) else (some false)))) else (some false)))) else (some false))))))) = some r := H
  have A4 := Aside0.mk A40
  clear A40
  replace H := Option.bind_eq_some_iff.mp H
  obtain ⟨⟨t255, t256⟩, A50, H⟩ := H
  replace H : ((tnum_Meet.f t253 t254 t255 t256).bind fun bt257 => ((lockgateref03_Meet.f k t253 t254 t255 t256).bind fun bt261 => ((tnum_Of.f a2).bind fun bt265 => ((lockgateref03_Of.f a2).bind fun bt267 => (if (bt265.1 == bt267.1 && (bt265.2 == bt267.2)) = true then ((tnum_Any.f).bind fun bt269 => ((lockgateref03_Any.f).bind fun bt271 => (if (bt269.1 == bt271.1 && (bt269.2 == bt271.2)) = true then ((tnum_In.f t253 t254 a2).bind fun t273 => ((lockgateref03_In.f k t253 t254 a2).bind fun t274 => (if (t273 == t274) = true then ((tnum_Within.f t253 t254 t255 t256).bind fun t275 => ((lockgateref03_Within.f k t253 t254 t255 t256).bind fun t276 => (if (t275 == t276) = true then ((tnum_Join.f t253 t254 t255 t256).bind fun bt277 => ((lockgateref03_Join.f k t253 t254 t255 t256).bind fun bt279 => (if (bt277.1 == bt279.1 && (bt277.2 == bt279.2)) = true then (if (bt257.1 == bt261.1 && (bt257.2.1 == bt261.2.1)) = true then (if (bt257.2.2 == bt261.2.2) = true then ((lockgatelaw03_known.f k).bind fun t281 => (some t281)) else (some false)) else (some false)) else (some false)))) else (some false)))) else (some false)))) else (some false)))) else (some false)))))) = some r := H
  have A5 := Aside0.mk A50
  clear A50
  replace H := Option.bind_eq_some_iff.mp H
  obtain ⟨⟨t257, t258, t259⟩, A60, H⟩ := H
  replace H : ((lockgateref03_Meet.f k t253 t254 t255 t256).bind fun bt261 => ((tnum_Of.f a2).bind fun bt265 => ((lockgateref03_Of.f a2).bind fun bt267 => (if (bt265.1 == bt267.1 && (bt265.2 == bt267.2)) = true then ((tnum_Any.f).bind fun bt269 => ((lockgateref03_Any.f).bind fun bt271 => (if (bt269.1 == bt271.1 && (bt269.2 == bt271.2)) = true then ((tnum_In.f t253 t254 a2).bind fun t273 => ((lockgateref03_In.f k t253 t254 a2).bind fun t274 => (if (t273 == t274) = true then ((tnum_Within.f t253 t254 t255 t256).bind fun t275 => ((lockgateref03_Within.f k t253 t254 t255 t256).bind fun t276 => (if (t275 == t276) = true then ((tnum_Join.f t253 t254 t255 t256).bind fun bt277 => ((lockgateref03_Join.f k t253 t254 t255 t256).bind fun bt279 => (if (bt277.1 == bt279.1 && (bt277.2 == bt279.2)) = true then (if (t257 == bt261.1 && (t258 == bt261.2.1)) = true then (if (t259 == bt261.2.2) = true then ((lockgatelaw03_known.f k).bind fun t281 => (some t281)) else (some false)) else (some false)) else (some false)))) else (some false)))) else (some false)))) else (some false)))) else (some false))))) = some r := H
  have A6 := Aside0.mk A60
  clear A60
  replace H := Option.bind_eq_some_iff.mp H
  obtain ⟨⟨t261, t262, t263⟩, A70, H⟩ := H
  replace H : ((tnum_Of.f a2).bind fun bt265 => ((lockgateref03_Of.f a2).bind fun bt267 => (if (bt265.1 == bt267.1 && (bt265.2 == bt267.2)) = true then ((tnum_Any.f).bind fun bt269 => ((lockgateref03_Any.f).bind fun bt271 => (if (bt269.1 == bt271.1 && (bt269.2 == bt271.2)) = true then ((tnum_In.f t253 t254 a2).bind fun t273 => ((lockgateref03_In.f k t253 t254 a2).bind fun t274 => (if (t273 == t274) = true then ((tnum_Within.f t253 t254 t255 t256).bind fun t275 => ((lockgateref03_Within.f k t253 t254 t255 t256).bind fun t276 => (if (t275 == t276) = true then ((tnum_Join.f t253 t254 t255 t256).bind fun bt277 => ((lockgateref03_Join.f k t253 t254 t255 t256).bind fun bt279 => (if (bt277.1 == bt279.1 && (bt277.2 == bt279.2)) = true then (if (t257 == t261 && (t258 == t262)) = true then (if (t259 == t263) = true then ((lockgatelaw03_known.f k).bind fun t281 => (some t281)) else (some false)) else (some false)) else (some false)))) else (some false)))) else (some false)))) else (some false)))) else (some false)))) = some r := H
  have A7 := Aside0.mk A70
  clear A70
  replace H := Option.bind_eq_some_iff.mp H
  obtain ⟨⟨t265, t266⟩, A80, H⟩ := H
  replace H : ((lockgateref03_Of.f a2).bind fun bt267 => (if (t265 == bt267.1 && (t266 == bt267.2)) = true then ((tnum_Any.f).bind fun bt269 => ((lockgateref03_Any.f).bind fun bt271 => (if (bt269.1 == bt271.1 && (bt269.2 == bt271.2)) = true then ((tnum_In.f t253 t254 a2).bind fun t273 => ((lockgateref03_In.f k t253 t254 a2).bind fun t274 => (if (t273 == t274) = true then ((tnum_Within.f t253 t254 t255 t256).bind fun t275 => ((lockgateref03_Within.f k t253 t254 t255 t256).bind fun t276 => (if (t275 == t276) = true then ((tnum_Join.f t253 t254 t255 t256).bind fun bt277 => ((lockgateref03_Join.f k t253 t254 t255 t256).bind fun bt279 => (if (bt277.1 == bt279.1 && (bt277.2 == bt279.2)) = true then (if (t257 == t261 && (t258 == t262)) = true then (if (t259 == t263) = true then ((lockgatelaw03_known.f k).bind fun t281 => (some t281)) else (some false)) else (some false)) else (some false)))) else (some false)))) else (some false)))) else (some false)))) else (some false))) = some r := H
  have A8 := Aside0.mk A80
  clear A80
  replace H := Option.bind_eq_some_iff.mp H
  obtain ⟨⟨t267, t268⟩, A90, H⟩ := H
  replace H : (if (t265 == t267 && (t266 == t268)) = true then ((tnum_Any.f).bind fun bt269 => ((lockgateref03_Any.f).bind fun bt271 => (if (bt269.1 == bt271.1 && (bt269.2 == bt271.2)) = true then ((tnum_In.f t253 t254 a2).bind fun t273 => ((lockgateref03_In.f k t253 t254 a2).bind fun t274 => (if (t273 == t274) = true then ((tnum_Within.f t253 t254 t255 t256).bind fun t275 => ((lockgateref03_Within.f k t253 t254 t255 t256).bind fun t276 => (if (t275 == t276) = true then ((tnum_Join.f t253 t254 t255 t256).bind fun bt277 => ((lockgateref03_Join.f k t253 t254 t255 t256).bind fun bt279 => (if (bt277.1 == bt279.1 && (bt277.2 == bt279.2)) = true then (if (t257 == t261 && (t258 == t262)) = true then (if (t259 == t263) = true then ((lockgatelaw03_known.f k).bind fun t281 => (some t281)) else (some false)) else (some false)) else (some false)))) else (some false)))) else (some false)))) else (some false)))) else (some false)) = some r := H
  have A9 := Aside0.mk A90
  clear A90
  by_cases c10 : (t265 == t267 && (t266 == t268)) = true
  · rw [if_pos c10] at H
    have c10b0 : (t265 == t267 && (t266 == t268)) = true := c10
    (try (have c10b1 : decide (t265 = t267 && (t266 == t268)) = true := by simpa using c10))
    (try (have c10b2 : (t265 == t267 && (t266 == t268)) = true := by simpa using c10))
    clear c10
    replace H := Option.bind_eq_some_iff.mp H
    obtain ⟨⟨t269, t270⟩, A110, H⟩ := H
    replace H : ((lockgateref03_Any.f).bind fun bt271 => (if (t269 == bt271.1 && (t270 == bt271.2)) = true then ((tnum_In.f t253 t254 a2).bind fun t273 => ((lockgateref03_In.f k t253 t254 a2).bind fun t274 => (if (t273 == t274) = true then ((tnum_Within.f t253 t254 t255 t256).bind fun t275 => ((lockgateref03_Within.f k t253 t254 t255 t256).bind fun t276 => (if (t275 == t276) = true then ((tnum_Join.f t253 t254 t255 t256).bind fun bt277 => ((lockgateref03_Join.f k t253 t254 t255 t256).bind fun bt279 => (if (bt277.1 == bt279.1 && (bt277.2 == bt279.2)) = true then (if (t257 == t261 && (t258 == t262)) = true then (if (t259 == t263) = true then ((lockgatelaw03_known.f k).bind fun t281 => (some t281)) else (some false)) else (some false)) else (some false)))) else (some false)))) else (some false)))) else (some false))) = some r := H
    have A11 := Aside0.mk A110
    clear A110
    replace H := Option.bind_eq_some_iff.mp H
    obtain ⟨⟨t271, t272⟩, A120, H⟩ := H
    replace H : (if (t269 == t271 && (t270 == t272)) = true then ((tnum_In.f t253 t254 a2).bind fun t273 => ((lockgateref03_In.f k t253 t254 a2).bind fun t274 => (if (t273 == t274) = true then ((tnum_Within.f t253 t254 t255 t256).bind fun t275 => ((lockgateref03_Within.f k t253 t254 t255 t256).bind fun t276 => (if (t275 == t276) = true then ((tnum_Join.f t253 t254 t255 t256).bind fun bt277 => ((lockgateref03_Join.f k t253 t254 t255 t256).bind fun bt279 => (if (bt277.1 == bt279.1 && (bt277.2 == bt279.2)) = true then (if (t257 == t261 && (t258 == t262)) = true then (if (t259 == t263) = true then ((lockgatelaw03_known.f k).bind fun t281 => (some t281)) else (some false)) else (some false)) else (some false)))) else (some false)))) else (some false)))) else (some false)) = some r := H
    have A12 := Aside0.mk A120
    clear A120
    by_cases c13 : (t269 == t271 && (t270 == t272)) = true
    · rw [if_pos c13] at H
      have c13b0 : (t269 == t271 && (t270 == t272)) = true := c13
      (try (have c13b1 : decide (t269 = t271 && (t270 == t272)) = true := by simpa using c13))
      (try (have c13b2 : (t269 == t271 && (t270 == t272)) = true := by simpa using c13))
      clear c13
      replace H := Option.bind_eq_some_iff.mp H
      obtain ⟨t273, A140, H⟩ := H
      replace H : ((lockgateref03_In.f k t253 t254 a2).bind fun t274 => (if (t273 == t274) = true then ((tnum_Within.f t253 t254 t255 t256).bind fun t275 => ((lockgateref03_Within.f k t253 t254 t255 t256).bind fun t276 => (if (t275 == t276) = true then ((tnum_Join.f t253 t254 t255 t256).bind fun bt277 => ((lockgateref03_Join.f k t253 t254 t255 t256).bind fun bt279 => (if (bt277.1 == bt279.1 && (bt277.2 == bt279.2)) = true then (if (t257 == t261 && (t258 == t262)) = true then (if (t259 == t263) = true then ((lockgatelaw03_known.f k).bind fun t281 => (some t281)) else (some false)) else (some false)) else (some false)))) else (some false)))) else (some false))) = some r := H
      have A14 := Aside0.mk A140
      clear A140
      replace H := Option.bind_eq_some_iff.mp H
      obtain ⟨t274, A150, H⟩ := H
      replace H : (if (t273 == t274) = true then ((tnum_Within.f t253 t254 t255 t256).bind fun t275 => ((lockgateref03_Within.f k t253 t254 t255 t256).bind fun t276 => (if (t275 == t276) = true then ((tnum_Join.f t253 t254 t255 t256).bind fun bt277 => ((lockgateref03_Join.f k t253 t254 t255 t256).bind fun bt279 => (if (bt277.1 == bt279.1 && (bt277.2 == bt279.2)) = true then (if (t257 == t261 && (t258 == t262)) = true then (if (t259 == t263) = true then ((lockgatelaw03_known.f k).bind fun t281 => (some t281)) else (some false)) else (some false)) else (some false)))) else (some false)))) else (some false)) = some r := H
      have A15 := Aside0.mk A150
      clear A150
      by_cases c16 : (t273 == t274) = true
      · rw [if_pos c16] at H
        have c16b0 : (t273 == t274) = true := c16
        (try (have c16b1 : decide (t273 = t274) = true := by simpa using c16))
        (try (have c16b2 : (t273 == t274) = true := by simpa using c16))
        clear c16
        replace H := Option.bind_eq_some_iff.mp H
        obtain ⟨t275, A170, H⟩ := H
        replace H : ((lockgateref03_Within.f k t253 t254 t255 t256).bind fun t276 => (if (t275 == t276) = true then ((tnum_Join.f t253 t254 t255 t256).bind fun bt277 => ((lockgateref03_Join.f k t253 t254 t255 t256).bind fun bt279 => (if (bt277.1 == bt279.1 && (bt277.2 == bt279.2)) = true then (if (t257 == t261 && (t258 == t262)) = true then (if (t259 == t263) = true then ((lockgatelaw03_known.f k).bind fun t281 => (some t281)) else (some false)) else (some false)) else (some false)))) else (some false))) = some r := H
        have A17 := Aside0.mk A170
        clear A170
        replace H := Option.bind_eq_some_iff.mp H
        obtain ⟨t276, A180, H⟩ := H
        replace H : (if (t275 == t276) = true then ((tnum_Join.f t253 t254 t255 t256).bind fun bt277 => ((lockgateref03_Join.f k t253 t254 t255 t256).bind fun bt279 => (if (bt277.1 == bt279.1 && (bt277.2 == bt279.2)) = true then (if (t257 == t261 && (t258 == t262)) = true then (if (t259 == t263) = true then ((lockgatelaw03_known.f k).bind fun t281 => (some t281)) else (some false)) else (some false)) else (some false)))) else (some false)) = some r := H
        have A18 := Aside0.mk A180
        clear A180
        by_cases c19 : (t275 == t276) = true
        · rw [if_pos c19] at H
          have c19b0 : (t275 == t276) = true := c19
          (try (have c19b1 : decide (t275 = t276) = true := by simpa using c19))
          (try (have c19b2 : (t275 == t276) = true := by simpa using c19))
          clear c19
          replace H := Option.bind_eq_some_iff.mp H
          obtain ⟨⟨t277, t278⟩, A200, H⟩ := H
          replace H : ((lockgateref03_Join.f k t253 t254 t255 t256).bind fun bt279 => (if (t277 == bt279.1 && (t278 == bt279.2)) = true then (if (t257 == t261 && (t258 == t262)) = true then (if (t259 == t263) = true then ((lockgatelaw03_known.f k).bind fun t281 => (some t281)) else (some false)) else (some false)) else (some false))) = some r := H
          have A20 := Aside0.mk A200
          clear A200
          replace H := Option.bind_eq_some_iff.mp H
          obtain ⟨⟨t279, t280⟩, A210, H⟩ := H
          replace H : (if (t277 == t279 && (t278 == t280)) = true then (if (t257 == t261 && (t258 == t262)) = true then (if (t259 == t263) = true then ((lockgatelaw03_known.f k).bind fun t281 => (some t281)) else (some false)) else (some false)) else (some false)) = some r := H
          have A21 := Aside0.mk A210
          clear A210
          by_cases c22 : (t277 == t279 && (t278 == t280)) = true
          · rw [if_pos c22] at H
            have c22b0 : (t277 == t279 && (t278 == t280)) = true := c22
            (try (have c22b1 : decide (t277 = t279 && (t278 == t280)) = true := by simpa using c22))
            (try (have c22b2 : (t277 == t279 && (t278 == t280)) = true := by simpa using c22))
            clear c22
            by_cases c23 : (t257 == t261 && (t258 == t262)) = true
            · rw [if_pos c23] at H
              have c23b0 : (t257 == t261 && (t258 == t262)) = true := c23
              (try (have c23b1 : decide (t257 = t261 && (t258 == t262)) = true := by simpa using c23))
              (try (have c23b2 : (t257 == t261 && (t258 == t262)) = true := by simpa using c23))
              clear c23
              by_cases c24 : (t259 == t263) = true
              · rw [if_pos c24] at H
                have c24b0 : (t259 == t263) = true := c24
                (try (have c24b1 : decide (t259 = t263) = true := by simpa using c24))
                (try (have c24b2 : (t259 == t263) = true := by simpa using c24))
                clear c24
                replace H := Option.bind_eq_some_iff.mp H
                obtain ⟨t281, A250, H⟩ := H
                replace H : (some t281) = some r := H
                have A25 := Aside0.mk A250
                clear A250
                obtain rfl := Option.some.inj H
                go_enter Try.func5, Try.ntmps5
                try go_wp2_with (first | ((with_reducible refine gate_dst (N := 3) rfl ?_); refine box_event ?hg (N := 3) ?hd (cs := #[.int .u64 a0_0, .int .u64 a0_1]) (t := 24) ?hr ?_; (case hd => rfl); (case hg => rfl); (case hr => first | (go_simp; done) | (go_simp; rfl)); intro gb251 hg w26 hbox hb; have n0_ := Aside0.mk (below_step (by repeat (first | (with_reducible first | exact HB.out | apply lA_16 | apply lN_16 | apply lD_16) | exact HB.out)) hb); have n1_ := Aside0.mk (hbox); have n2_ := Aside0.mk ((by rw [hg]; exact (below_size (by repeat (first | (with_reducible first | exact HB.out | apply lA_16 | apply lN_16 | apply lD_16) | exact HB.out))) : w.heap.size ≤ gb251)); have n3_ := Aside0.mk ((by rw [hg]; exact (below_size (by repeat (first | (with_reducible first | exact HB.out | apply lA_16 | apply lN_16 | apply lD_16) | exact HB.out))) : w.heap.size ≤ gb251)); clear HB; have HB := n0_; have BK251 := n1_; have GW251 := n2_; have GE251 := n3_; clear n0_ n1_ n2_ n3_; clear hb hbox hg) | ((with_reducible refine gate_dst (N := 4) rfl ?_); refine box_event ?hg (N := 4) ?hd (cs := #[.int .u64 a1_0, .int .u64 a1_1]) (t := 24) ?hr ?_; (case hd => rfl); (case hg => rfl); (case hr => first | (go_simp; done) | (go_simp; rfl)); intro gb252 hg w27 hbox hb; have n0_ := Aside0.mk (blk_below (g := gb251) (o := .cells #[.int .u64 a0_0, .int .u64 a0_1] 24 (0, 0)) (by (with_reducible repeat (first | apply bN_16 | apply bD_16 | apply bA_16)); exact BK251.out) hb); have n1_ := Aside0.mk (below_step (by repeat (first | (with_reducible first | exact HB.out | apply lA_16 | apply lN_16 | apply lD_16 | refine lS_16 ?_ GE251.out) | exact HB.out)) hb); have n2_ := Aside0.mk (hbox); have n3_ := Aside0.mk ((by rw [hg]; exact (below_size (by repeat (first | (with_reducible first | exact HB.out | apply lA_16 | apply lN_16 | apply lD_16 | refine lS_16 ?_ GE251.out) | exact HB.out))) : w.heap.size ≤ gb252)); have n4_ := Aside0.mk ((by rw [hg]; exact (below_size (by repeat (first | (with_reducible first | exact HB.out | apply lA_16 | apply lN_16 | apply lD_16 | refine lS_16 ?_ GE251.out) | exact HB.out))) : w.heap.size ≤ gb252)); have n5_ := Aside0.mk ((by rw [hg]; exact Nat.ne_of_lt (blk_lt (g := gb251) (o := .cells #[.int .u64 a0_0, .int .u64 a0_1] 24 (0, 0)) (by (with_reducible repeat (first | apply bN_16 | apply bD_16 | apply bA_16)); exact BK251.out)) : gb251 ≠ gb252)); have n6_ := Aside0.mk ((by rw [hg]; exact Nat.ne_of_gt (blk_lt (g := gb251) (o := .cells #[.int .u64 a0_0, .int .u64 a0_1] 24 (0, 0)) (by (with_reducible repeat (first | apply bN_16 | apply bD_16 | apply bA_16)); exact BK251.out)) : gb252 ≠ gb251)); clear BK251; clear HB; have BK251 := n0_; have HB := n1_; have BK252 := n2_; have GW252 := n3_; have GE252 := n4_; have NB251_252 := n5_; have NB252_251 := n6_; clear n0_ n1_ n2_ n3_ n4_ n5_ n6_; clear hb hbox hg; have hnb28 := NB251_252.out; have hnc28 := NB252_251.out; have hcz29_0 : w27.cell? ⟨gb251, 0, none⟩ = some (.int .u64 a0_0) := (blk_cell BK251.out 0).trans rfl; have hcz29_1 : w27.cell? ⟨gb251, 1, none⟩ = some (.int .u64 a0_1) := (blk_cell BK251.out 1).trans rfl; have hfz29_0 := blk_frozen BK251.out 0; have hfz29_1 := blk_frozen BK251.out 1) | ((with_reducible refine gate_callee (f := 12) rfl ?_); refine goesL_ (some 12) rfl rfl Try.func12 (by kernel_rfl) rfl #[.agg #[.int .u64 a0_0, .int .u64 a0_1]] rfl (by (try simp only [List.map_toArray, List.map_cons, List.map_nil]); first | done | rfl) ?_; (with_reducible refine (lockgatelaw03_May.calls a0_0 a0_1 t253 t254 _ A4.out).mono ?_); rintro e w30 ⟨rfl, hb⟩; refine ⟨_, rfl, ?_⟩; have n0_ := Aside0.mk (blk_below (g := gb251) (o := .cells #[.int .u64 a0_0, .int .u64 a0_1] 24 (0, 0)) (by (with_reducible repeat (first | apply bN_16 | apply bD_16 | apply bA_16)); exact BK251.out) hb); have n1_ := Aside0.mk (blk_below (g := gb252) (o := .cells #[.int .u64 a1_0, .int .u64 a1_1] 24 (0, 0)) (by (with_reducible repeat (first | apply bN_16 | apply bD_16 | apply bA_16)); exact BK252.out) hb); have n2_ := Aside0.mk (below_step (by repeat (first | (with_reducible first | exact HB.out | apply lA_16 | apply lN_16 | apply lD_16 | refine lS_16 ?_ GE251.out | refine lS_16 ?_ GE252.out) | exact HB.out)) hb); clear BK251; clear BK252; clear HB; have BK251 := n0_; have BK252 := n1_; have HB := n2_; clear n0_ n1_ n2_; (try clear hb); (try clear hb2); (try clear hk); (try clear hi); have hcz31_0 : w30.cell? ⟨gb251, 0, none⟩ = some (.int .u64 a0_0) := (blk_cell BK251.out 0).trans rfl; have hcz31_1 : w30.cell? ⟨gb251, 1, none⟩ = some (.int .u64 a0_1) := (blk_cell BK251.out 1).trans rfl; have hfz31_0 := blk_frozen BK251.out 0; have hfz31_1 := blk_frozen BK251.out 1; have hcz32_0 : w30.cell? ⟨gb252, 0, none⟩ = some (.int .u64 a1_0) := (blk_cell BK252.out 0).trans rfl; have hcz32_1 : w30.cell? ⟨gb252, 1, none⟩ = some (.int .u64 a1_1) := (blk_cell BK252.out 1).trans rfl; have hfz32_0 := blk_frozen BK252.out 0; have hfz32_1 := blk_frozen BK252.out 1) | ((with_reducible refine gate_callee (f := 12) rfl ?_); refine goesL_ (some 14) rfl rfl Try.func12 (by kernel_rfl) rfl #[.agg #[.int .u64 a1_0, .int .u64 a1_1]] rfl (by (try simp only [List.map_toArray, List.map_cons, List.map_nil]); first | done | rfl) ?_; (with_reducible refine (lockgatelaw03_May.calls a1_0 a1_1 t255 t256 _ A5.out).mono ?_); rintro e w33 ⟨rfl, hb⟩; refine ⟨_, rfl, ?_⟩; have n0_ := Aside0.mk (blk_below (g := gb251) (o := .cells #[.int .u64 t253, .int .u64 t254] 24 (0, 0)) (by (with_reducible repeat (first | apply bN_16 | apply bD_16 | apply bA_16)); refine blk_put (cs := #[.int .u64 t253, .int .u64 a0_1]) ?_ 1 _ rfl; (with_reducible repeat (first | apply bN_16 | apply bD_16 | apply bA_16)); refine blk_put (cs := #[.int .u64 a0_0, .int .u64 a0_1]) ?_ 0 _ rfl; (with_reducible repeat (first | apply bN_16 | apply bD_16 | apply bA_16)); exact BK251.out) hb); have n1_ := Aside0.mk (blk_below (g := gb252) (o := .cells #[.int .u64 a1_0, .int .u64 a1_1] 24 (0, 0)) (by (with_reducible repeat (first | apply bN_16 | apply bD_16 | apply bA_16)); refine blk_far ?_ NB252_251.out _; (with_reducible repeat (first | apply bN_16 | apply bD_16 | apply bA_16)); refine blk_far ?_ NB252_251.out _; (with_reducible repeat (first | apply bN_16 | apply bD_16 | apply bA_16)); exact BK252.out) hb); have n2_ := Aside0.mk (below_step (by repeat (first | (with_reducible first | exact HB.out | apply lA_16 | apply lN_16 | apply lD_16 | refine lS_16 ?_ GE251.out | refine lS_16 ?_ GE252.out) | exact HB.out)) hb); clear BK251; clear BK252; clear HB; have BK251 := n0_; have BK252 := n1_; have HB := n2_; clear n0_ n1_ n2_; (try clear hb); (try clear hb2); (try clear hk); (try clear hi); have hcz34_0 : w33.cell? ⟨gb252, 0, none⟩ = some (.int .u64 a1_0) := (blk_cell BK252.out 0).trans rfl; have hcz34_1 : w33.cell? ⟨gb252, 1, none⟩ = some (.int .u64 a1_1) := (blk_cell BK252.out 1).trans rfl; have hfz34_0 := blk_frozen BK252.out 0; have hfz34_1 := blk_frozen BK252.out 1; have hcz35_0 : w33.cell? ⟨gb251, 0, none⟩ = some (.int .u64 t253) := (blk_cell BK251.out 0).trans rfl; have hcz35_1 : w33.cell? ⟨gb251, 1, none⟩ = some (.int .u64 t254) := (blk_cell BK251.out 1).trans rfl; have hfz35_0 := blk_frozen BK251.out 0; have hfz35_1 := blk_frozen BK251.out 1) | ((with_reducible refine gate_callee (f := 23) rfl ?_); refine goesL_ (some 18) rfl rfl Try.func23 (by kernel_rfl) rfl #[.agg #[.int .u64 t253, .int .u64 t254], .agg #[.int .u64 t255, .int .u64 t256]] rfl (by (try simp only [List.map_toArray, List.map_cons, List.map_nil]); first | done | rfl) ?_; (with_reducible refine (tnum_Meet.calls t253 t254 t255 t256 t257 t258 t259 _ A6.out).mono ?_); rintro e w36 ⟨rfl, hb⟩; refine ⟨_, rfl, ?_⟩; have n0_ := Aside0.mk (blk_below (g := gb251) (o := .cells #[.int .u64 t253, .int .u64 t254] 24 (0, 0)) (by (with_reducible repeat (first | apply bN_16 | apply bD_16 | apply bA_16)); refine blk_far ?_ NB251_252.out _; (with_reducible repeat (first | apply bN_16 | apply bD_16 | apply bA_16)); refine blk_far ?_ NB251_252.out _; (with_reducible repeat (first | apply bN_16 | apply bD_16 | apply bA_16)); exact BK251.out) hb); have n1_ := Aside0.mk (blk_below (g := gb252) (o := .cells #[.int .u64 t255, .int .u64 t256] 24 (0, 0)) (by (with_reducible repeat (first | apply bN_16 | apply bD_16 | apply bA_16)); refine blk_put (cs := #[.int .u64 t255, .int .u64 a1_1]) ?_ 1 _ rfl; (with_reducible repeat (first | apply bN_16 | apply bD_16 | apply bA_16)); refine blk_put (cs := #[.int .u64 a1_0, .int .u64 a1_1]) ?_ 0 _ rfl; (with_reducible repeat (first | apply bN_16 | apply bD_16 | apply bA_16)); exact BK252.out) hb); have n2_ := Aside0.mk (below_step (by repeat (first | (with_reducible first | exact HB.out | apply lA_16 | apply lN_16 | apply lD_16 | refine lS_16 ?_ GE251.out | refine lS_16 ?_ GE252.out) | exact HB.out)) hb); clear BK251; clear BK252; clear HB; have BK251 := n0_; have BK252 := n1_; have HB := n2_; clear n0_ n1_ n2_; (try clear hb); (try clear hb2); (try clear hk); (try clear hi)) | ((with_reducible refine gate_dst (N := 7) rfl ?_); refine box_event ?hg (N := 7) ?hd (cs := #[.int .u64 0, .int .u64 0]) (t := 24) ?hr ?_; (case hd => rfl); (case hg => rfl); (case hr => first | (go_simp; done) | (go_simp; rfl)); intro gb260 hg w37 hbox hb; have n0_ := Aside0.mk (blk_below (g := gb251) (o := .cells #[.int .u64 t253, .int .u64 t254] 24 (0, 0)) (by (with_reducible repeat (first | apply bN_16 | apply bD_16 | apply bA_16)); exact BK251.out) hb); have n1_ := Aside0.mk (blk_below (g := gb252) (o := .cells #[.int .u64 t255, .int .u64 t256] 24 (0, 0)) (by (with_reducible repeat (first | apply bN_16 | apply bD_16 | apply bA_16)); exact BK252.out) hb); have n2_ := Aside0.mk (below_step (by repeat (first | (with_reducible first | exact HB.out | apply lA_16 | apply lN_16 | apply lD_16 | refine lS_16 ?_ GE251.out | refine lS_16 ?_ GE252.out) | exact HB.out)) hb); have n3_ := Aside0.mk (hbox); have n4_ := Aside0.mk ((by rw [hg]; exact (below_size (by repeat (first | (with_reducible first | exact HB.out | apply lA_16 | apply lN_16 | apply lD_16 | refine lS_16 ?_ GE251.out | refine lS_16 ?_ GE252.out) | exact HB.out))) : w.heap.size ≤ gb260)); have n5_ := Aside0.mk ((by rw [hg]; exact (below_size (by repeat (first | (with_reducible first | exact HB.out | apply lA_16 | apply lN_16 | apply lD_16 | refine lS_16 ?_ GE251.out | refine lS_16 ?_ GE252.out) | exact HB.out))) : w.heap.size ≤ gb260)); have n6_ := Aside0.mk ((by rw [hg]; exact Nat.ne_of_lt (blk_lt (g := gb251) (o := .cells #[.int .u64 t253, .int .u64 t254] 24 (0, 0)) (by (with_reducible repeat (first | apply bN_16 | apply bD_16 | apply bA_16)); exact BK251.out)) : gb251 ≠ gb260)); have n7_ := Aside0.mk ((by rw [hg]; exact Nat.ne_of_gt (blk_lt (g := gb251) (o := .cells #[.int .u64 t253, .int .u64 t254] 24 (0, 0)) (by (with_reducible repeat (first | apply bN_16 | apply bD_16 | apply bA_16)); exact BK251.out)) : gb260 ≠ gb251)); have n8_ := Aside0.mk ((by rw [hg]; exact Nat.ne_of_lt (blk_lt (g := gb252) (o := .cells #[.int .u64 t255, .int .u64 t256] 24 (0, 0)) (by (with_reducible repeat (first | apply bN_16 | apply bD_16 | apply bA_16)); exact BK252.out)) : gb252 ≠ gb260)); have n9_ := Aside0.mk ((by rw [hg]; exact Nat.ne_of_gt (blk_lt (g := gb252) (o := .cells #[.int .u64 t255, .int .u64 t256] 24 (0, 0)) (by (with_reducible repeat (first | apply bN_16 | apply bD_16 | apply bA_16)); exact BK252.out)) : gb260 ≠ gb252)); clear BK251; clear BK252; clear HB; have BK251 := n0_; have BK252 := n1_; have HB := n2_; have BK260 := n3_; have GW260 := n4_; have GE260 := n5_; have NB251_260 := n6_; have NB260_251 := n7_; have NB252_260 := n8_; have NB260_252 := n9_; clear n0_ n1_ n2_ n3_ n4_ n5_ n6_ n7_ n8_ n9_; clear hb hbox hg; have hnb38 := NB260_251.out; have hnc38 := NB251_260.out; have hnb39 := NB260_252.out; have hnc39 := NB252_260.out; have hcz40_0 : w37.cell? ⟨gb260, 0, none⟩ = some (.int .u64 0) := (blk_cell BK260.out 0).trans rfl; have hcz40_1 : w37.cell? ⟨gb260, 1, none⟩ = some (.int .u64 0) := (blk_cell BK260.out 1).trans rfl; have hfz40_0 := blk_frozen BK260.out 0; have hfz40_1 := blk_frozen BK260.out 1; have hcz41_0 : w37.cell? ⟨gb251, 0, none⟩ = some (.int .u64 t253) := (blk_cell BK251.out 0).trans rfl; have hcz41_1 : w37.cell? ⟨gb251, 1, none⟩ = some (.int .u64 t254) := (blk_cell BK251.out 1).trans rfl; have hfz41_0 := blk_frozen BK251.out 0; have hfz41_1 := blk_frozen BK251.out 1; have hcz42_0 : w37.cell? ⟨gb252, 0, none⟩ = some (.int .u64 t255) := (blk_cell BK252.out 0).trans rfl; have hcz42_1 : w37.cell? ⟨gb252, 1, none⟩ = some (.int .u64 t256) := (blk_cell BK252.out 1).trans rfl; have hfz42_0 := blk_frozen BK252.out 0; have hfz42_1 := blk_frozen BK252.out 1) | ((with_reducible refine gate_callee (f := 24) rfl ?_); refine goesL_ (some 24) rfl rfl Try.func24 (by kernel_rfl) rfl #[.agg #[.int .u64 t253, .int .u64 t254], .agg #[.int .u64 t255, .int .u64 t256]] rfl (by (try simp only [List.map_toArray, List.map_cons, List.map_nil]); first | done | rfl) ?_; (with_reducible refine (lockgateref03_Meet.calls k t253 t254 t255 t256 t261 t262 t263 _ A7.out).mono ?_); rintro e w43 ⟨rfl, hb⟩; refine ⟨_, rfl, ?_⟩; have n0_ := Aside0.mk (blk_below (g := gb251) (o := .cells #[.int .u64 t253, .int .u64 t254] 24 (0, 0)) (by (with_reducible repeat (first | apply bN_16 | apply bD_16 | apply bA_16)); refine blk_far ?_ NB251_260.out _; (with_reducible repeat (first | apply bN_16 | apply bD_16 | apply bA_16)); refine blk_far ?_ NB251_260.out _; (with_reducible repeat (first | apply bN_16 | apply bD_16 | apply bA_16)); exact BK251.out) hb); have n1_ := Aside0.mk (blk_below (g := gb252) (o := .cells #[.int .u64 t255, .int .u64 t256] 24 (0, 0)) (by (with_reducible repeat (first | apply bN_16 | apply bD_16 | apply bA_16)); refine blk_far ?_ NB252_260.out _; (with_reducible repeat (first | apply bN_16 | apply bD_16 | apply bA_16)); refine blk_far ?_ NB252_260.out _; (with_reducible repeat (first | apply bN_16 | apply bD_16 | apply bA_16)); exact BK252.out) hb); have n2_ := Aside0.mk (blk_below (g := gb260) (o := .cells #[.int .u64 t257, .int .u64 t258] 24 (0, 0)) (by (with_reducible repeat (first | apply bN_16 | apply bD_16 | apply bA_16)); refine blk_put (cs := #[.int .u64 t257, .int .u64 0]) ?_ 1 _ rfl; (with_reducible repeat (first | apply bN_16 | apply bD_16 | apply bA_16)); refine blk_put (cs := #[.int .u64 0, .int .u64 0]) ?_ 0 _ rfl; (with_reducible repeat (first | apply bN_16 | apply bD_16 | apply bA_16)); exact BK260.out) hb); have n3_ := Aside0.mk (below_step (by repeat (first | (with_reducible first | exact HB.out | apply lA_16 | apply lN_16 | apply lD_16 | refine lS_16 ?_ GE251.out | refine lS_16 ?_ GE252.out | refine lS_16 ?_ GE260.out) | exact HB.out)) hb); clear BK251; clear BK252; clear BK260; clear HB; have BK251 := n0_; have BK252 := n1_; have BK260 := n2_; have HB := n3_; clear n0_ n1_ n2_ n3_; (try clear hb); (try clear hb2); (try clear hk); (try clear hi)) | ((with_reducible refine gate_dst (N := 9) rfl ?_); refine box_event ?hg (N := 9) ?hd (cs := #[.int .u64 0, .int .u64 0]) (t := 24) ?hr ?_; (case hd => rfl); (case hg => rfl); (case hr => first | (go_simp; done) | (go_simp; rfl)); intro gb264 hg w44 hbox hb; have n0_ := Aside0.mk (blk_below (g := gb251) (o := .cells #[.int .u64 t253, .int .u64 t254] 24 (0, 0)) (by (with_reducible repeat (first | apply bN_16 | apply bD_16 | apply bA_16)); exact BK251.out) hb); have n1_ := Aside0.mk (blk_below (g := gb252) (o := .cells #[.int .u64 t255, .int .u64 t256] 24 (0, 0)) (by (with_reducible repeat (first | apply bN_16 | apply bD_16 | apply bA_16)); exact BK252.out) hb); have n2_ := Aside0.mk (blk_below (g := gb260) (o := .cells #[.int .u64 t257, .int .u64 t258] 24 (0, 0)) (by (with_reducible repeat (first | apply bN_16 | apply bD_16 | apply bA_16)); exact BK260.out) hb); have n3_ := Aside0.mk (below_step (by repeat (first | (with_reducible first | exact HB.out | apply lA_16 | apply lN_16 | apply lD_16 | refine lS_16 ?_ GE251.out | refine lS_16 ?_ GE252.out | refine lS_16 ?_ GE260.out) | exact HB.out)) hb); have n4_ := Aside0.mk (hbox); have n5_ := Aside0.mk ((by rw [hg]; exact (below_size (by repeat (first | (with_reducible first | exact HB.out | apply lA_16 | apply lN_16 | apply lD_16 | refine lS_16 ?_ GE251.out | refine lS_16 ?_ GE252.out | refine lS_16 ?_ GE260.out) | exact HB.out))) : w.heap.size ≤ gb264)); have n6_ := Aside0.mk ((by rw [hg]; exact (below_size (by repeat (first | (with_reducible first | exact HB.out | apply lA_16 | apply lN_16 | apply lD_16 | refine lS_16 ?_ GE251.out | refine lS_16 ?_ GE252.out | refine lS_16 ?_ GE260.out) | exact HB.out))) : w.heap.size ≤ gb264)); have n7_ := Aside0.mk ((by rw [hg]; exact Nat.ne_of_lt (blk_lt (g := gb251) (o := .cells #[.int .u64 t253, .int .u64 t254] 24 (0, 0)) (by (with_reducible repeat (first | apply bN_16 | apply bD_16 | apply bA_16)); exact BK251.out)) : gb251 ≠ gb264)); have n8_ := Aside0.mk ((by rw [hg]; exact Nat.ne_of_gt (blk_lt (g := gb251) (o := .cells #[.int .u64 t253, .int .u64 t254] 24 (0, 0)) (by (with_reducible repeat (first | apply bN_16 | apply bD_16 | apply bA_16)); exact BK251.out)) : gb264 ≠ gb251)); have n9_ := Aside0.mk ((by rw [hg]; exact Nat.ne_of_lt (blk_lt (g := gb252) (o := .cells #[.int .u64 t255, .int .u64 t256] 24 (0, 0)) (by (with_reducible repeat (first | apply bN_16 | apply bD_16 | apply bA_16)); exact BK252.out)) : gb252 ≠ gb264)); have n10_ := Aside0.mk ((by rw [hg]; exact Nat.ne_of_gt (blk_lt (g := gb252) (o := .cells #[.int .u64 t255, .int .u64 t256] 24 (0, 0)) (by (with_reducible repeat (first | apply bN_16 | apply bD_16 | apply bA_16)); exact BK252.out)) : gb264 ≠ gb252)); have n11_ := Aside0.mk ((by rw [hg]; exact Nat.ne_of_lt (blk_lt (g := gb260) (o := .cells #[.int .u64 t257, .int .u64 t258] 24 (0, 0)) (by (with_reducible repeat (first | apply bN_16 | apply bD_16 | apply bA_16)); exact BK260.out)) : gb260 ≠ gb264)); have n12_ := Aside0.mk ((by rw [hg]; exact Nat.ne_of_gt (blk_lt (g := gb260) (o := .cells #[.int .u64 t257, .int .u64 t258] 24 (0, 0)) (by (with_reducible repeat (first | apply bN_16 | apply bD_16 | apply bA_16)); exact BK260.out)) : gb264 ≠ gb260)); clear BK251; clear BK252; clear BK260; clear HB; have BK251 := n0_; have BK252 := n1_; have BK260 := n2_; have HB := n3_; have BK264 := n4_; have GW264 := n5_; have GE264 := n6_; have NB251_264 := n7_; have NB264_251 := n8_; have NB252_264 := n9_; have NB264_252 := n10_; have NB260_264 := n11_; have NB264_260 := n12_; clear n0_ n1_ n2_ n3_ n4_ n5_ n6_ n7_ n8_ n9_ n10_ n11_ n12_; clear hb hbox hg; have hnb45 := NB264_251.out; have hnc45 := NB251_264.out; have hnb46 := NB264_252.out; have hnc46 := NB252_264.out; have hnb47 := NB264_260.out; have hnc47 := NB260_264.out; have hcz48_0 : w44.cell? ⟨gb264, 0, none⟩ = some (.int .u64 0) := (blk_cell BK264.out 0).trans rfl; have hcz48_1 : w44.cell? ⟨gb264, 1, none⟩ = some (.int .u64 0) := (blk_cell BK264.out 1).trans rfl; have hfz48_0 := blk_frozen BK264.out 0; have hfz48_1 := blk_frozen BK264.out 1))
                have n0_ : Aside0 (((w44.setCell ⟨gb264, 0, none⟩ (.int .u64 t261)).setCell ⟨gb264, 1, none⟩ (.int .u64 t262)).heap[gb251]? = some (.cells #[.int .u64 t253, .int .u64 t254] 24 (0, 0))) := ⟨by (with_reducible repeat (first | apply bN_16 | apply bD_16 | apply bA_16)); refine blk_far ?_ NB251_264.out _; (with_reducible repeat (first | apply bN_16 | apply bD_16 | apply bA_16)); refine blk_far ?_ NB251_264.out _; (with_reducible repeat (first | apply bN_16 | apply bD_16 | apply bA_16)); exact BK251.out⟩
                have n1_ : Aside0 (((w44.setCell ⟨gb264, 0, none⟩ (.int .u64 t261)).setCell ⟨gb264, 1, none⟩ (.int .u64 t262)).heap[gb252]? = some (.cells #[.int .u64 t255, .int .u64 t256] 24 (0, 0))) := ⟨by (with_reducible repeat (first | apply bN_16 | apply bD_16 | apply bA_16)); refine blk_far ?_ NB252_264.out _; (with_reducible repeat (first | apply bN_16 | apply bD_16 | apply bA_16)); refine blk_far ?_ NB252_264.out _; (with_reducible repeat (first | apply bN_16 | apply bD_16 | apply bA_16)); exact BK252.out⟩
                have n2_ : Aside0 (((w44.setCell ⟨gb264, 0, none⟩ (.int .u64 t261)).setCell ⟨gb264, 1, none⟩ (.int .u64 t262)).heap[gb260]? = some (.cells #[.int .u64 t257, .int .u64 t258] 24 (0, 0))) := ⟨by (with_reducible repeat (first | apply bN_16 | apply bD_16 | apply bA_16)); refine blk_far ?_ NB260_264.out _; (with_reducible repeat (first | apply bN_16 | apply bD_16 | apply bA_16)); refine blk_far ?_ NB260_264.out _; (with_reducible repeat (first | apply bN_16 | apply bD_16 | apply bA_16)); exact BK260.out⟩
                have n3_ : Aside0 (((w44.setCell ⟨gb264, 0, none⟩ (.int .u64 t261)).setCell ⟨gb264, 1, none⟩ (.int .u64 t262)).heap[gb264]? = some (.cells #[.int .u64 t261, .int .u64 t262] 24 (0, 0))) := ⟨by (with_reducible repeat (first | apply bN_16 | apply bD_16 | apply bA_16)); refine blk_put (cs := #[.int .u64 t261, .int .u64 0]) ?_ 1 _ rfl; (with_reducible repeat (first | apply bN_16 | apply bD_16 | apply bA_16)); refine blk_put (cs := #[.int .u64 0, .int .u64 0]) ?_ 0 _ rfl; (with_reducible repeat (first | apply bN_16 | apply bD_16 | apply bA_16)); exact BK264.out⟩
                have n4_ : Aside0 (Below w.heap.size w ((w44.setCell ⟨gb264, 0, none⟩ (.int .u64 t261)).setCell ⟨gb264, 1, none⟩ (.int .u64 t262))) := ⟨by repeat (first | (with_reducible first | exact HB.out | apply lA_16 | apply lN_16 | apply lD_16 | refine lS_16 ?_ GE251.out | refine lS_16 ?_ GE252.out | refine lS_16 ?_ GE260.out | refine lS_16 ?_ GE264.out) | exact HB.out)⟩
                (try clear BK251)
                (try clear BK252)
                (try clear BK260)
                (try clear BK264)
                (try clear HB)
                generalize ((w44.setCell ⟨gb264, 0, none⟩ (.int .u64 t261)).setCell ⟨gb264, 1, none⟩ (.int .u64 t262)) = w49 at n0_ n1_ n2_ n3_ n4_ ⊢
                have BK251 := n0_
                have BK252 := n1_
                have BK260 := n2_
                have BK264 := n3_
                have HB := n4_
                clear n0_ n1_ n2_ n3_ n4_
                have n0_ := Aside0.mk (blk_drew BK251.out)
                have n1_ := Aside0.mk (blk_drew BK252.out)
                have n2_ := Aside0.mk (blk_drew BK260.out)
                have n3_ := Aside0.mk (blk_drew BK264.out)
                have n4_ := Aside0.mk (below_drew1 HB.out)
                clear BK251
                clear BK252
                clear BK260
                clear BK264
                clear HB
                have BK251 := n0_
                have BK252 := n1_
                have BK260 := n2_
                have BK264 := n3_
                have HB := n4_
                clear n0_ n1_ n2_ n3_ n4_
                refine start_ (n := 51) (S := fun w' => w'.cell? ⟨gb251, 0, none⟩ = some (.int .u64 t253) ∧ w'.cell? ⟨gb251, 1, none⟩ = some (.int .u64 t254) ∧ w'.cell? ⟨gb252, 0, none⟩ = some (.int .u64 t255) ∧ w'.cell? ⟨gb252, 1, none⟩ = some (.int .u64 t256) ∧ w'.cell? ⟨gb260, 0, none⟩ = some (.int .u64 t257) ∧ w'.cell? ⟨gb260, 1, none⟩ = some (.int .u64 t258) ∧ w'.cell? ⟨gb264, 0, none⟩ = some (.int .u64 t261) ∧ w'.cell? ⟨gb264, 1, none⟩ = some (.int .u64 t262)) (ds := []) #[false, false, false, false, false, false, false, false, false, false, false, false, false, false, false, false, false, false, false, false, false, false, false, false, false, false, false, false, false, false, false, false, false, false, false, false, false, false, false, false, false, false, false, false, false, false, false, false, false, false, false] (by kernel_rfl) rfl rfl ⟨(blk_cell BK251.out 0).trans rfl, (blk_cell BK251.out 1).trans rfl, (blk_cell BK252.out 0).trans rfl, (blk_cell BK252.out 1).trans rfl, (blk_cell BK260.out 0).trans rfl, (blk_cell BK260.out 1).trans rfl, (blk_cell BK264.out 0).trans rfl, (blk_cell BK264.out 1).trans rfl⟩ (fun hHeld => ?_); refine with_tabW lockgatelaw03_TnumSets.tab5 lockgatelaw03_TnumSets.bits5 (fun HT_ HW_ => ?_)
                generalize w49.drew = w50 at BK251 BK252 BK260 BK264 HB hHeld ⊢
                refine pure_ (i := 0) (N := some 27) (v := ?_) (a' := ?_) #[true, false, false, false, false, false, false, false, false, false, false, false, false, false, false, false, false, false, false, false, false, false, false, false, false, false, false, false, false, false, false, false, false, false, false, false, false, false, false, false, false, false, false, false, false, false, false, false, false, false, false] rfl rfl (any_of HT_.out (by kernel_rfl)) (fun _ _ _ h => h) (Or.inl ⟨by rfl, ?_⟩) ?_ ?_
                rotate_left
                · intro w'
                  go_simp
                  with_reducible rfl
                rotate_left
                · simp only [Act.put, List.setIfInBounds_toArray, List.set_cons_zero, List.set_cons_succ, i64_w, i32_w]
                  rfl
                refine pure_ (i := 2) (N := some 29) (v := ?_) (a' := ?_) #[true, false, true, false, false, false, false, false, false, false, false, false, false, false, false, false, false, false, false, false, false, false, false, false, false, false, false, false, false, false, false, false, false, false, false, false, false, false, false, false, false, false, false, false, false, false, false, false, false, false, false] rfl rfl (any_of HT_.out (by kernel_rfl)) (fun _ _ _ h => h) (Or.inl ⟨by rfl, ?_⟩) ?_ ?_
                rotate_left
                · intro w'
                  go_simp
                  with_reducible rfl
                rotate_left
                · simp only [Act.put, List.setIfInBounds_toArray, List.set_cons_zero, List.set_cons_succ, i64_w, i32_w]
                  rfl
                refine one_ (i := 1) (N := some 28) #[true, true, true, false, false, false, false, false, false, false, false, false, false, false, false, false, false, false, false, false, false, false, false, false, false, false, false, false, false, false, false, false, false, false, false, false, false, false, false, false, false, false, false, false, false, false, false, false, false, false, false] rfl rfl (one_of HT_.out (by kernel_rfl)) (by decide) (fun K hK => ?_)
                refine goes_ Try.func25 (by kernel_rfl) rfl #[.int .u64 a2] (by rfl) rfl rfl (by (try simp only [List.map_toArray, List.map_cons, List.map_nil]); first | done | rfl) ?_
                with_reducible refine (tnum_Of.calls a2 t265 t266 _ A8.out).mono ?_
                rintro e w51 ⟨rfl, hb⟩
                refine ⟨_, rfl, ?_⟩
                have n0_ := Aside0.mk (blk_below (g := gb251) (o := .cells #[.int .u64 t253, .int .u64 t254] 24 (0, 0)) (by (with_reducible repeat (first | apply bN_16 | apply bD_16 | apply bA_16)); exact BK251.out) hb)
                have n1_ := Aside0.mk (blk_below (g := gb252) (o := .cells #[.int .u64 t255, .int .u64 t256] 24 (0, 0)) (by (with_reducible repeat (first | apply bN_16 | apply bD_16 | apply bA_16)); exact BK252.out) hb)
                have n2_ := Aside0.mk (blk_below (g := gb260) (o := .cells #[.int .u64 t257, .int .u64 t258] 24 (0, 0)) (by (with_reducible repeat (first | apply bN_16 | apply bD_16 | apply bA_16)); exact BK260.out) hb)
                have n3_ := Aside0.mk (blk_below (g := gb264) (o := .cells #[.int .u64 t261, .int .u64 t262] 24 (0, 0)) (by (with_reducible repeat (first | apply bN_16 | apply bD_16 | apply bA_16)); exact BK264.out) hb)
                have n4_ := Aside0.mk (below_step (by repeat (first | (with_reducible first | exact HB.out | apply lA_16 | apply lN_16 | apply lD_16 | refine lS_16 ?_ GE251.out | refine lS_16 ?_ GE252.out | refine lS_16 ?_ GE260.out | refine lS_16 ?_ GE264.out) | exact HB.out)) hb)
                clear BK251
                clear BK252
                clear BK260
                clear BK264
                clear HB
                have BK251 := n0_
                have BK252 := n1_
                have BK260 := n2_
                have BK264 := n3_
                have HB := n4_
                clear n0_ n1_ n2_ n3_ n4_
                (try clear hb)
                (try clear hb2)
                (try clear hk)
                (try clear hi)
                refine hK.out _ _ ⟨(blk_cell BK251.out 0).trans rfl, (blk_cell BK251.out 1).trans rfl, (blk_cell BK252.out 0).trans rfl, (blk_cell BK252.out 1).trans rfl, (blk_cell BK260.out 0).trans rfl, (blk_cell BK260.out 1).trans rfl, (blk_cell BK264.out 0).trans rfl, (blk_cell BK264.out 1).trans rfl⟩ (fun hHeld => ?_)
                clear hK K
                refine norm_ (a' := ?_) ?_ ?_
                rotate_left
                · show Act.put _ (some 28) _ = _
                  simp only [Act.put, List.setIfInBounds_toArray, List.set_cons_zero, List.set_cons_succ, i64_w, i32_w]
                  rfl
                refine one_ (i := 3) (N := some 30) #[true, true, true, true, false, false, false, false, false, false, false, false, false, false, false, false, false, false, false, false, false, false, false, false, false, false, false, false, false, false, false, false, false, false, false, false, false, false, false, false, false, false, false, false, false, false, false, false, false, false, false] rfl rfl (one_of HT_.out (by kernel_rfl)) (by decide) (fun K hK => ?_)
                refine goes_ Try.func26 (by kernel_rfl) rfl #[.int .u64 a2] (by rfl) rfl rfl (by (try simp only [List.map_toArray, List.map_cons, List.map_nil]); first | done | rfl) ?_
                with_reducible refine (lockgateref03_Of.calls a2 t267 t268 _ A9.out).mono ?_
                rintro e w52 ⟨rfl, hb⟩
                refine ⟨_, rfl, ?_⟩
                have n0_ := Aside0.mk (blk_below (g := gb251) (o := .cells #[.int .u64 t253, .int .u64 t254] 24 (0, 0)) (by (with_reducible repeat (first | apply bN_16 | apply bD_16 | apply bA_16)); exact BK251.out) hb)
                have n1_ := Aside0.mk (blk_below (g := gb252) (o := .cells #[.int .u64 t255, .int .u64 t256] 24 (0, 0)) (by (with_reducible repeat (first | apply bN_16 | apply bD_16 | apply bA_16)); exact BK252.out) hb)
                have n2_ := Aside0.mk (blk_below (g := gb260) (o := .cells #[.int .u64 t257, .int .u64 t258] 24 (0, 0)) (by (with_reducible repeat (first | apply bN_16 | apply bD_16 | apply bA_16)); exact BK260.out) hb)
                have n3_ := Aside0.mk (blk_below (g := gb264) (o := .cells #[.int .u64 t261, .int .u64 t262] 24 (0, 0)) (by (with_reducible repeat (first | apply bN_16 | apply bD_16 | apply bA_16)); exact BK264.out) hb)
                have n4_ := Aside0.mk (below_step (by repeat (first | (with_reducible first | exact HB.out | apply lA_16 | apply lN_16 | apply lD_16 | refine lS_16 ?_ GE251.out | refine lS_16 ?_ GE252.out | refine lS_16 ?_ GE260.out | refine lS_16 ?_ GE264.out) | exact HB.out)) hb)
                clear BK251
                clear BK252
                clear BK260
                clear BK264
                clear HB
                have BK251 := n0_
                have BK252 := n1_
                have BK260 := n2_
                have BK264 := n3_
                have HB := n4_
                clear n0_ n1_ n2_ n3_ n4_
                (try clear hb)
                (try clear hb2)
                (try clear hk)
                (try clear hi)
                refine hK.out _ _ ⟨(blk_cell BK251.out 0).trans rfl, (blk_cell BK251.out 1).trans rfl, (blk_cell BK252.out 0).trans rfl, (blk_cell BK252.out 1).trans rfl, (blk_cell BK260.out 0).trans rfl, (blk_cell BK260.out 1).trans rfl, (blk_cell BK264.out 0).trans rfl, (blk_cell BK264.out 1).trans rfl⟩ (fun hHeld => ?_)
                clear hK K
                refine norm_ (a' := ?_) ?_ ?_
                rotate_left
                · show Act.put _ (some 30) _ = _
                  simp only [Act.put, List.setIfInBounds_toArray, List.set_cons_zero, List.set_cons_succ, i64_w, i32_w]
                  rfl
                refine pure_ (i := 4) (N := some 31) (v := ?_) (a' := ?_) #[true, true, true, true, true, false, false, false, false, false, false, false, false, false, false, false, false, false, false, false, false, false, false, false, false, false, false, false, false, false, false, false, false, false, false, false, false, false, false, false, false, false, false, false, false, false, false, false, false, false, false] rfl rfl (any_of HT_.out (by kernel_rfl)) (fun _ _ _ h => h) (Or.inl ⟨by rfl, ?_⟩) ?_ ?_
                rotate_left
                · intro w'
                  go_simp
                  with_reducible rfl
                rotate_left
                · simp only [Act.put, List.setIfInBounds_toArray, List.set_cons_zero, List.set_cons_succ, i64_w, i32_w]
                  rfl
                refine pure_ (i := 5) (N := some 32) (v := ?_) (a' := ?_) #[true, true, true, true, true, true, false, false, false, false, false, false, false, false, false, false, false, false, false, false, false, false, false, false, false, false, false, false, false, false, false, false, false, false, false, false, false, false, false, false, false, false, false, false, false, false, false, false, false, false, false] rfl rfl (any_of HT_.out (by kernel_rfl)) (fun _ _ _ h => h) (Or.inl ⟨by rfl, ?_⟩) ?_ ?_
                rotate_left
                · intro w'
                  go_simp
                  with_reducible rfl
                rotate_left
                · simp only [Act.put, List.setIfInBounds_toArray, List.set_cons_zero, List.set_cons_succ, i64_w, i32_w]
                  rfl
                refine one_ (i := 6) (N := some 33) #[true, true, true, true, true, true, true, false, false, false, false, false, false, false, false, false, false, false, false, false, false, false, false, false, false, false, false, false, false, false, false, false, false, false, false, false, false, false, false, false, false, false, false, false, false, false, false, false, false, false, false] rfl rfl (one_of HT_.out (by kernel_rfl)) (by decide) (fun K hK => ?_)
                refine goes_ Try.func27 (by kernel_rfl) rfl #[] (by rfl) rfl rfl (by (try simp only [List.map_toArray, List.map_cons, List.map_nil]); first | done | rfl) ?_
                with_reducible refine (tnum_Any.calls  t269 t270 _ A11.out).mono ?_
                rintro e w53 ⟨rfl, hb⟩
                refine ⟨_, rfl, ?_⟩
                have n0_ := Aside0.mk (blk_below (g := gb251) (o := .cells #[.int .u64 t253, .int .u64 t254] 24 (0, 0)) (by (with_reducible repeat (first | apply bN_16 | apply bD_16 | apply bA_16)); exact BK251.out) hb)
                have n1_ := Aside0.mk (blk_below (g := gb252) (o := .cells #[.int .u64 t255, .int .u64 t256] 24 (0, 0)) (by (with_reducible repeat (first | apply bN_16 | apply bD_16 | apply bA_16)); exact BK252.out) hb)
                have n2_ := Aside0.mk (blk_below (g := gb260) (o := .cells #[.int .u64 t257, .int .u64 t258] 24 (0, 0)) (by (with_reducible repeat (first | apply bN_16 | apply bD_16 | apply bA_16)); exact BK260.out) hb)
                have n3_ := Aside0.mk (blk_below (g := gb264) (o := .cells #[.int .u64 t261, .int .u64 t262] 24 (0, 0)) (by (with_reducible repeat (first | apply bN_16 | apply bD_16 | apply bA_16)); exact BK264.out) hb)
                have n4_ := Aside0.mk (below_step (by repeat (first | (with_reducible first | exact HB.out | apply lA_16 | apply lN_16 | apply lD_16 | refine lS_16 ?_ GE251.out | refine lS_16 ?_ GE252.out | refine lS_16 ?_ GE260.out | refine lS_16 ?_ GE264.out) | exact HB.out)) hb)
                clear BK251
                clear BK252
                clear BK260
                clear BK264
                clear HB
                have BK251 := n0_
                have BK252 := n1_
                have BK260 := n2_
                have BK264 := n3_
                have HB := n4_
                clear n0_ n1_ n2_ n3_ n4_
                (try clear hb)
                (try clear hb2)
                (try clear hk)
                (try clear hi)
                refine hK.out _ _ ⟨(blk_cell BK251.out 0).trans rfl, (blk_cell BK251.out 1).trans rfl, (blk_cell BK252.out 0).trans rfl, (blk_cell BK252.out 1).trans rfl, (blk_cell BK260.out 0).trans rfl, (blk_cell BK260.out 1).trans rfl, (blk_cell BK264.out 0).trans rfl, (blk_cell BK264.out 1).trans rfl⟩ (fun hHeld => ?_)
                clear hK K
                refine norm_ (a' := ?_) ?_ ?_
                rotate_left
                · show Act.put _ (some 33) _ = _
                  simp only [Act.put, List.setIfInBounds_toArray, List.set_cons_zero, List.set_cons_succ, i64_w, i32_w]
                  rfl
                refine one_ (i := 7) (N := some 34) #[true, true, true, true, true, true, true, true, false, false, false, false, false, false, false, false, false, false, false, false, false, false, false, false, false, false, false, false, false, false, false, false, false, false, false, false, false, false, false, false, false, false, false, false, false, false, false, false, false, false, false] rfl rfl (one_of HT_.out (by kernel_rfl)) (by decide) (fun K hK => ?_)
                refine goes_ Try.func28 (by kernel_rfl) rfl #[] (by rfl) rfl rfl (by (try simp only [List.map_toArray, List.map_cons, List.map_nil]); first | done | rfl) ?_
                with_reducible refine (lockgateref03_Any.calls  t271 t272 _ A12.out).mono ?_
                rintro e w54 ⟨rfl, hb⟩
                refine ⟨_, rfl, ?_⟩
                have n0_ := Aside0.mk (blk_below (g := gb251) (o := .cells #[.int .u64 t253, .int .u64 t254] 24 (0, 0)) (by (with_reducible repeat (first | apply bN_16 | apply bD_16 | apply bA_16)); exact BK251.out) hb)
                have n1_ := Aside0.mk (blk_below (g := gb252) (o := .cells #[.int .u64 t255, .int .u64 t256] 24 (0, 0)) (by (with_reducible repeat (first | apply bN_16 | apply bD_16 | apply bA_16)); exact BK252.out) hb)
                have n2_ := Aside0.mk (blk_below (g := gb260) (o := .cells #[.int .u64 t257, .int .u64 t258] 24 (0, 0)) (by (with_reducible repeat (first | apply bN_16 | apply bD_16 | apply bA_16)); exact BK260.out) hb)
                have n3_ := Aside0.mk (blk_below (g := gb264) (o := .cells #[.int .u64 t261, .int .u64 t262] 24 (0, 0)) (by (with_reducible repeat (first | apply bN_16 | apply bD_16 | apply bA_16)); exact BK264.out) hb)
                have n4_ := Aside0.mk (below_step (by repeat (first | (with_reducible first | exact HB.out | apply lA_16 | apply lN_16 | apply lD_16 | refine lS_16 ?_ GE251.out | refine lS_16 ?_ GE252.out | refine lS_16 ?_ GE260.out | refine lS_16 ?_ GE264.out) | exact HB.out)) hb)
                clear BK251
                clear BK252
                clear BK260
                clear BK264
                clear HB
                have BK251 := n0_
                have BK252 := n1_
                have BK260 := n2_
                have BK264 := n3_
                have HB := n4_
                clear n0_ n1_ n2_ n3_ n4_
                (try clear hb)
                (try clear hb2)
                (try clear hk)
                (try clear hi)
                refine hK.out _ _ ⟨(blk_cell BK251.out 0).trans rfl, (blk_cell BK251.out 1).trans rfl, (blk_cell BK252.out 0).trans rfl, (blk_cell BK252.out 1).trans rfl, (blk_cell BK260.out 0).trans rfl, (blk_cell BK260.out 1).trans rfl, (blk_cell BK264.out 0).trans rfl, (blk_cell BK264.out 1).trans rfl⟩ (fun hHeld => ?_)
                clear hK K
                refine norm_ (a' := ?_) ?_ ?_
                rotate_left
                · show Act.put _ (some 34) _ = _
                  simp only [Act.put, List.setIfInBounds_toArray, List.set_cons_zero, List.set_cons_succ, i64_w, i32_w]
                  rfl
                refine pure_ (i := 8) (N := some 35) (v := ?_) (a' := ?_) #[true, true, true, true, true, true, true, true, true, false, false, false, false, false, false, false, false, false, false, false, false, false, false, false, false, false, false, false, false, false, false, false, false, false, false, false, false, false, false, false, false, false, false, false, false, false, false, false, false, false, false] rfl rfl (any_of HT_.out (by kernel_rfl)) (fun _ _ _ h => h) (Or.inl ⟨by rfl, ?_⟩) ?_ ?_
                rotate_left
                · intro w'
                  go_simp
                  with_reducible rfl
                rotate_left
                · simp only [Act.put, List.setIfInBounds_toArray, List.set_cons_zero, List.set_cons_succ, i64_w, i32_w]
                  rfl
                refine pure_ (i := 9) (N := some 36) (v := ?_) (a' := ?_) #[true, true, true, true, true, true, true, true, true, true, false, false, false, false, false, false, false, false, false, false, false, false, false, false, false, false, false, false, false, false, false, false, false, false, false, false, false, false, false, false, false, false, false, false, false, false, false, false, false, false, false] rfl rfl (any_of HT_.out (by kernel_rfl)) (fun _ _ _ h => h) (Or.inl ⟨by rfl, ?_⟩) ?_ ?_
                rotate_left
                · intro w'
                  go_simp
                  with_reducible rfl
                rotate_left
                · simp only [Act.put, List.setIfInBounds_toArray, List.set_cons_zero, List.set_cons_succ, i64_w, i32_w]
                  rfl
                refine pure_ (i := 10) (N := some 37) (v := ?_) (a' := ?_) #[true, true, true, true, true, true, true, true, true, true, true, false, false, false, false, false, false, false, false, false, false, false, false, false, false, false, false, false, false, false, false, false, false, false, false, false, false, false, false, false, false, false, false, false, false, false, false, false, false, false, false] rfl rfl (any_of HT_.out (by kernel_rfl)) (fun _ _ _ h => h) (Or.inl ⟨by rfl, ?_⟩) ?_ ?_
                rotate_left
                · intro w'
                  go_simp
                  with_reducible rfl
                rotate_left
                · simp only [Act.put, List.setIfInBounds_toArray, List.set_cons_zero, List.set_cons_succ, i64_w, i32_w]
                  rfl
                refine pure_ (i := 12) (N := some 39) (v := ?_) (a' := ?_) #[true, true, true, true, true, true, true, true, true, true, true, false, true, false, false, false, false, false, false, false, false, false, false, false, false, false, false, false, false, false, false, false, false, false, false, false, false, false, false, false, false, false, false, false, false, false, false, false, false, false, false] rfl rfl (any_of HT_.out (by kernel_rfl)) (fun _ _ _ h => h) (Or.inl ⟨by rfl, ?_⟩) ?_ ?_
                rotate_left
                · intro w'
                  go_simp
                  with_reducible rfl
                rotate_left
                · simp only [Act.put, List.setIfInBounds_toArray, List.set_cons_zero, List.set_cons_succ, i64_w, i32_w]
                  rfl
                refine pure_ (i := 15) (N := some 42) (v := ?_) (a' := ?_) #[true, true, true, true, true, true, true, true, true, true, true, false, true, false, false, true, false, false, false, false, false, false, false, false, false, false, false, false, false, false, false, false, false, false, false, false, false, false, false, false, false, false, false, false, false, false, false, false, false, false, false] rfl rfl (any_of HT_.out (by kernel_rfl)) (fun _ _ _ h => h) (Or.inl ⟨by rfl, ?_⟩) ?_ ?_
                rotate_left
                · intro w'
                  go_simp
                  with_reducible rfl
                rotate_left
                · simp only [Act.put, List.setIfInBounds_toArray, List.set_cons_zero, List.set_cons_succ, i64_w, i32_w]
                  rfl
                refine take_ (i := 11) (N := some 38) (v := ?_) (a' := ?_) #[true, true, true, true, true, true, true, true, true, true, true, true, true, false, false, true, false, false, false, false, false, false, false, false, false, false, false, false, false, false, false, false, false, false, false, false, false, false, false, false, false, false, false, false, false, false, false, false, false, false, false] rfl rfl (take_ofW HT_.out HW_.out (by kernel_rfl)) (fun _ _ _ h => h) (Or.inl ⟨by rfl, ?_⟩) hHeld ?_ ?_
                rotate_left
                · rintro w' ⟨s0, s1, s2, s3, s4, s5, s6, s7⟩
                  go_simp
                  with_reducible rfl
                rotate_left
                · simp only [Act.put, List.setIfInBounds_toArray, List.set_cons_zero, List.set_cons_succ, i64_w, i32_w]
                  rfl
                refine take_ (i := 14) (N := some 41) (v := ?_) (a' := ?_) #[true, true, true, true, true, true, true, true, true, true, true, true, true, false, true, true, false, false, false, false, false, false, false, false, false, false, false, false, false, false, false, false, false, false, false, false, false, false, false, false, false, false, false, false, false, false, false, false, false, false, false] rfl rfl (take_ofW HT_.out HW_.out (by kernel_rfl)) (fun _ _ _ h => h) (Or.inl ⟨by rfl, ?_⟩) hHeld ?_ ?_
                rotate_left
                · rintro w' ⟨s0, s1, s2, s3, s4, s5, s6, s7⟩
                  go_simp
                  with_reducible rfl
                rotate_left
                · simp only [Act.put, List.setIfInBounds_toArray, List.set_cons_zero, List.set_cons_succ, i64_w, i32_w]
                  rfl
                refine one_ (i := 13) (N := some 40) #[true, true, true, true, true, true, true, true, true, true, true, true, true, true, true, true, false, false, false, false, false, false, false, false, false, false, false, false, false, false, false, false, false, false, false, false, false, false, false, false, false, false, false, false, false, false, false, false, false, false, false] rfl rfl (one_of HT_.out (by kernel_rfl)) (by decide) (fun K hK => ?_)
                refine goes_ Try.func14 (by kernel_rfl) rfl #[.agg #[.int .u64 t253, .int .u64 t254], .int .u64 a2] (by rfl) rfl rfl (by (try simp only [List.map_toArray, List.map_cons, List.map_nil]); first | done | rfl) ?_
                with_reducible refine (tnum_In.calls t253 t254 a2 t273 _ A14.out).mono ?_
                rintro e w55 ⟨rfl, hb⟩
                refine ⟨_, rfl, ?_⟩
                have n0_ := Aside0.mk (blk_below (g := gb251) (o := .cells #[.int .u64 t253, .int .u64 t254] 24 (0, 0)) (by (with_reducible repeat (first | apply bN_16 | apply bD_16 | apply bA_16)); exact BK251.out) hb)
                have n1_ := Aside0.mk (blk_below (g := gb252) (o := .cells #[.int .u64 t255, .int .u64 t256] 24 (0, 0)) (by (with_reducible repeat (first | apply bN_16 | apply bD_16 | apply bA_16)); exact BK252.out) hb)
                have n2_ := Aside0.mk (blk_below (g := gb260) (o := .cells #[.int .u64 t257, .int .u64 t258] 24 (0, 0)) (by (with_reducible repeat (first | apply bN_16 | apply bD_16 | apply bA_16)); exact BK260.out) hb)
                have n3_ := Aside0.mk (blk_below (g := gb264) (o := .cells #[.int .u64 t261, .int .u64 t262] 24 (0, 0)) (by (with_reducible repeat (first | apply bN_16 | apply bD_16 | apply bA_16)); exact BK264.out) hb)
                have n4_ := Aside0.mk (below_step (by repeat (first | (with_reducible first | exact HB.out | apply lA_16 | apply lN_16 | apply lD_16 | refine lS_16 ?_ GE251.out | refine lS_16 ?_ GE252.out | refine lS_16 ?_ GE260.out | refine lS_16 ?_ GE264.out) | exact HB.out)) hb)
                clear BK251
                clear BK252
                clear BK260
                clear BK264
                clear HB
                have BK251 := n0_
                have BK252 := n1_
                have BK260 := n2_
                have BK264 := n3_
                have HB := n4_
                clear n0_ n1_ n2_ n3_ n4_
                (try clear hb)
                (try clear hb2)
                (try clear hk)
                (try clear hi)
                refine hK.out _ _ ⟨(blk_cell BK251.out 0).trans rfl, (blk_cell BK251.out 1).trans rfl, (blk_cell BK252.out 0).trans rfl, (blk_cell BK252.out 1).trans rfl, (blk_cell BK260.out 0).trans rfl, (blk_cell BK260.out 1).trans rfl, (blk_cell BK264.out 0).trans rfl, (blk_cell BK264.out 1).trans rfl⟩ (fun hHeld => ?_)
                clear hK K
                refine norm_ (a' := ?_) ?_ ?_
                rotate_left
                · show Act.put _ (some 40) _ = _
                  simp only [Act.put, List.setIfInBounds_toArray, List.set_cons_zero, List.set_cons_succ, i64_w, i32_w]
                  rfl
                refine one_ (i := 16) (N := some 43) #[true, true, true, true, true, true, true, true, true, true, true, true, true, true, true, true, true, false, false, false, false, false, false, false, false, false, false, false, false, false, false, false, false, false, false, false, false, false, false, false, false, false, false, false, false, false, false, false, false, false, false] rfl rfl (one_of HT_.out (by kernel_rfl)) (by decide) (fun K hK => ?_)
                refine goes_ Try.func29 (by kernel_rfl) rfl #[.agg #[.int .u64 t253, .int .u64 t254], .int .u64 a2] (by rfl) rfl rfl (by (try simp only [List.map_toArray, List.map_cons, List.map_nil]); first | done | rfl) ?_
                with_reducible refine (lockgateref03_In.calls k t253 t254 a2 t274 _ A15.out).mono ?_
                rintro e w56 ⟨rfl, hb⟩
                refine ⟨_, rfl, ?_⟩
                have n0_ := Aside0.mk (blk_below (g := gb251) (o := .cells #[.int .u64 t253, .int .u64 t254] 24 (0, 0)) (by (with_reducible repeat (first | apply bN_16 | apply bD_16 | apply bA_16)); exact BK251.out) hb)
                have n1_ := Aside0.mk (blk_below (g := gb252) (o := .cells #[.int .u64 t255, .int .u64 t256] 24 (0, 0)) (by (with_reducible repeat (first | apply bN_16 | apply bD_16 | apply bA_16)); exact BK252.out) hb)
                have n2_ := Aside0.mk (blk_below (g := gb260) (o := .cells #[.int .u64 t257, .int .u64 t258] 24 (0, 0)) (by (with_reducible repeat (first | apply bN_16 | apply bD_16 | apply bA_16)); exact BK260.out) hb)
                have n3_ := Aside0.mk (blk_below (g := gb264) (o := .cells #[.int .u64 t261, .int .u64 t262] 24 (0, 0)) (by (with_reducible repeat (first | apply bN_16 | apply bD_16 | apply bA_16)); exact BK264.out) hb)
                have n4_ := Aside0.mk (below_step (by repeat (first | (with_reducible first | exact HB.out | apply lA_16 | apply lN_16 | apply lD_16 | refine lS_16 ?_ GE251.out | refine lS_16 ?_ GE252.out | refine lS_16 ?_ GE260.out | refine lS_16 ?_ GE264.out) | exact HB.out)) hb)
                clear BK251
                clear BK252
                clear BK260
                clear BK264
                clear HB
                have BK251 := n0_
                have BK252 := n1_
                have BK260 := n2_
                have BK264 := n3_
                have HB := n4_
                clear n0_ n1_ n2_ n3_ n4_
                (try clear hb)
                (try clear hb2)
                (try clear hk)
                (try clear hi)
                refine hK.out _ _ ⟨(blk_cell BK251.out 0).trans rfl, (blk_cell BK251.out 1).trans rfl, (blk_cell BK252.out 0).trans rfl, (blk_cell BK252.out 1).trans rfl, (blk_cell BK260.out 0).trans rfl, (blk_cell BK260.out 1).trans rfl, (blk_cell BK264.out 0).trans rfl, (blk_cell BK264.out 1).trans rfl⟩ (fun hHeld => ?_)
                clear hK K
                refine norm_ (a' := ?_) ?_ ?_
                rotate_left
                · show Act.put _ (some 43) _ = _
                  simp only [Act.put, List.setIfInBounds_toArray, List.set_cons_zero, List.set_cons_succ, i64_w, i32_w]
                  rfl
                refine pure_ (i := 17) (N := some 44) (v := ?_) (a' := ?_) #[true, true, true, true, true, true, true, true, true, true, true, true, true, true, true, true, true, true, false, false, false, false, false, false, false, false, false, false, false, false, false, false, false, false, false, false, false, false, false, false, false, false, false, false, false, false, false, false, false, false, false] rfl rfl (any_of HT_.out (by kernel_rfl)) (fun _ _ _ h => h) (Or.inl ⟨by rfl, ?_⟩) ?_ ?_
                rotate_left
                · intro w'
                  go_simp
                  with_reducible rfl
                rotate_left
                · simp only [Act.put, List.setIfInBounds_toArray, List.set_cons_zero, List.set_cons_succ, i64_w, i32_w]
                  rfl
                refine pure_ (i := 18) (N := some 45) (v := ?_) (a' := ?_) #[true, true, true, true, true, true, true, true, true, true, true, true, true, true, true, true, true, true, true, false, false, false, false, false, false, false, false, false, false, false, false, false, false, false, false, false, false, false, false, false, false, false, false, false, false, false, false, false, false, false, false] rfl rfl (any_of HT_.out (by kernel_rfl)) (fun _ _ _ h => h) (Or.inl ⟨by rfl, ?_⟩) ?_ ?_
                rotate_left
                · intro w'
                  go_simp
                  with_reducible rfl
                rotate_left
                · simp only [Act.put, List.setIfInBounds_toArray, List.set_cons_zero, List.set_cons_succ, i64_w, i32_w]
                  rfl
                refine pure_ (i := 19) (N := some 46) (v := ?_) (a' := ?_) #[true, true, true, true, true, true, true, true, true, true, true, true, true, true, true, true, true, true, true, true, false, false, false, false, false, false, false, false, false, false, false, false, false, false, false, false, false, false, false, false, false, false, false, false, false, false, false, false, false, false, false] rfl rfl (any_of HT_.out (by kernel_rfl)) (fun _ _ _ h => h) (Or.inl ⟨by rfl, ?_⟩) ?_ ?_
                rotate_left
                · intro w'
                  go_simp
                  with_reducible rfl
                rotate_left
                · simp only [Act.put, List.setIfInBounds_toArray, List.set_cons_zero, List.set_cons_succ, i64_w, i32_w]
                  rfl
                refine take_ (i := 20) (N := some 47) (v := ?_) (a' := ?_) #[true, true, true, true, true, true, true, true, true, true, true, true, true, true, true, true, true, true, true, true, true, false, false, false, false, false, false, false, false, false, false, false, false, false, false, false, false, false, false, false, false, false, false, false, false, false, false, false, false, false, false] rfl rfl (take_ofW HT_.out HW_.out (by kernel_rfl)) (fun _ _ _ h => h) (Or.inl ⟨by rfl, ?_⟩) hHeld ?_ ?_
                rotate_left
                · rintro w' ⟨s0, s1, s2, s3, s4, s5, s6, s7⟩
                  go_simp
                  with_reducible rfl
                rotate_left
                · simp only [Act.put, List.setIfInBounds_toArray, List.set_cons_zero, List.set_cons_succ, i64_w, i32_w]
                  rfl
                refine take_ (i := 21) (N := some 48) (v := ?_) (a' := ?_) #[true, true, true, true, true, true, true, true, true, true, true, true, true, true, true, true, true, true, true, true, true, true, false, false, false, false, false, false, false, false, false, false, false, false, false, false, false, false, false, false, false, false, false, false, false, false, false, false, false, false, false] rfl rfl (take_ofW HT_.out HW_.out (by kernel_rfl)) (fun _ _ _ h => h) (Or.inl ⟨by rfl, ?_⟩) hHeld ?_ ?_
                rotate_left
                · rintro w' ⟨s0, s1, s2, s3, s4, s5, s6, s7⟩
                  go_simp
                  with_reducible rfl
                rotate_left
                · simp only [Act.put, List.setIfInBounds_toArray, List.set_cons_zero, List.set_cons_succ, i64_w, i32_w]
                  rfl
                refine take_ (i := 23) (N := some 50) (v := ?_) (a' := ?_) #[true, true, true, true, true, true, true, true, true, true, true, true, true, true, true, true, true, true, true, true, true, true, false, true, false, false, false, false, false, false, false, false, false, false, false, false, false, false, false, false, false, false, false, false, false, false, false, false, false, false, false] rfl rfl (take_ofW HT_.out HW_.out (by kernel_rfl)) (fun _ _ _ h => h) (Or.inl ⟨by rfl, ?_⟩) hHeld ?_ ?_
                rotate_left
                · rintro w' ⟨s0, s1, s2, s3, s4, s5, s6, s7⟩
                  go_simp
                  with_reducible rfl
                rotate_left
                · simp only [Act.put, List.setIfInBounds_toArray, List.set_cons_zero, List.set_cons_succ, i64_w, i32_w]
                  rfl
                refine take_ (i := 24) (N := some 51) (v := ?_) (a' := ?_) #[true, true, true, true, true, true, true, true, true, true, true, true, true, true, true, true, true, true, true, true, true, true, false, true, true, false, false, false, false, false, false, false, false, false, false, false, false, false, false, false, false, false, false, false, false, false, false, false, false, false, false] rfl rfl (take_ofW HT_.out HW_.out (by kernel_rfl)) (fun _ _ _ h => h) (Or.inl ⟨by rfl, ?_⟩) hHeld ?_ ?_
                rotate_left
                · rintro w' ⟨s0, s1, s2, s3, s4, s5, s6, s7⟩
                  go_simp
                  with_reducible rfl
                rotate_left
                · simp only [Act.put, List.setIfInBounds_toArray, List.set_cons_zero, List.set_cons_succ, i64_w, i32_w]
                  rfl
                refine one_ (i := 22) (N := some 49) #[true, true, true, true, true, true, true, true, true, true, true, true, true, true, true, true, true, true, true, true, true, true, true, true, true, false, false, false, false, false, false, false, false, false, false, false, false, false, false, false, false, false, false, false, false, false, false, false, false, false, false] rfl rfl (one_of HT_.out (by kernel_rfl)) (by decide) (fun K hK => ?_)
                refine goes_ Try.func13 (by kernel_rfl) rfl #[.agg #[.int .u64 t253, .int .u64 t254], .agg #[.int .u64 t255, .int .u64 t256]] (by rfl) rfl rfl (by (try simp only [List.map_toArray, List.map_cons, List.map_nil]); first | done | rfl) ?_
                with_reducible refine (tnum_Within.calls t253 t254 t255 t256 t275 _ A17.out).mono ?_
                rintro e w57 ⟨rfl, hb⟩
                refine ⟨_, rfl, ?_⟩
                have n0_ := Aside0.mk (blk_below (g := gb251) (o := .cells #[.int .u64 t253, .int .u64 t254] 24 (0, 0)) (by (with_reducible repeat (first | apply bN_16 | apply bD_16 | apply bA_16)); exact BK251.out) hb)
                have n1_ := Aside0.mk (blk_below (g := gb252) (o := .cells #[.int .u64 t255, .int .u64 t256] 24 (0, 0)) (by (with_reducible repeat (first | apply bN_16 | apply bD_16 | apply bA_16)); exact BK252.out) hb)
                have n2_ := Aside0.mk (blk_below (g := gb260) (o := .cells #[.int .u64 t257, .int .u64 t258] 24 (0, 0)) (by (with_reducible repeat (first | apply bN_16 | apply bD_16 | apply bA_16)); exact BK260.out) hb)
                have n3_ := Aside0.mk (blk_below (g := gb264) (o := .cells #[.int .u64 t261, .int .u64 t262] 24 (0, 0)) (by (with_reducible repeat (first | apply bN_16 | apply bD_16 | apply bA_16)); exact BK264.out) hb)
                have n4_ := Aside0.mk (below_step (by repeat (first | (with_reducible first | exact HB.out | apply lA_16 | apply lN_16 | apply lD_16 | refine lS_16 ?_ GE251.out | refine lS_16 ?_ GE252.out | refine lS_16 ?_ GE260.out | refine lS_16 ?_ GE264.out) | exact HB.out)) hb)
                clear BK251
                clear BK252
                clear BK260
                clear BK264
                clear HB
                have BK251 := n0_
                have BK252 := n1_
                have BK260 := n2_
                have BK264 := n3_
                have HB := n4_
                clear n0_ n1_ n2_ n3_ n4_
                (try clear hb)
                (try clear hb2)
                (try clear hk)
                (try clear hi)
                refine hK.out _ _ ⟨(blk_cell BK251.out 0).trans rfl, (blk_cell BK251.out 1).trans rfl, (blk_cell BK252.out 0).trans rfl, (blk_cell BK252.out 1).trans rfl, (blk_cell BK260.out 0).trans rfl, (blk_cell BK260.out 1).trans rfl, (blk_cell BK264.out 0).trans rfl, (blk_cell BK264.out 1).trans rfl⟩ (fun hHeld => ?_)
                clear hK K
                refine norm_ (a' := ?_) ?_ ?_
                rotate_left
                · show Act.put _ (some 49) _ = _
                  simp only [Act.put, List.setIfInBounds_toArray, List.set_cons_zero, List.set_cons_succ, i64_w, i32_w]
                  rfl
                refine one_ (i := 25) (N := some 52) #[true, true, true, true, true, true, true, true, true, true, true, true, true, true, true, true, true, true, true, true, true, true, true, true, true, true, false, false, false, false, false, false, false, false, false, false, false, false, false, false, false, false, false, false, false, false, false, false, false, false, false] rfl rfl (one_of HT_.out (by kernel_rfl)) (by decide) (fun K hK => ?_)
                refine goes_ Try.func30 (by kernel_rfl) rfl #[.agg #[.int .u64 t253, .int .u64 t254], .agg #[.int .u64 t255, .int .u64 t256]] (by rfl) rfl rfl (by (try simp only [List.map_toArray, List.map_cons, List.map_nil]); first | done | rfl) ?_
                with_reducible refine (lockgateref03_Within.calls k t253 t254 t255 t256 t276 _ A18.out).mono ?_
                rintro e w58 ⟨rfl, hb⟩
                refine ⟨_, rfl, ?_⟩
                have n0_ := Aside0.mk (blk_below (g := gb251) (o := .cells #[.int .u64 t253, .int .u64 t254] 24 (0, 0)) (by (with_reducible repeat (first | apply bN_16 | apply bD_16 | apply bA_16)); exact BK251.out) hb)
                have n1_ := Aside0.mk (blk_below (g := gb252) (o := .cells #[.int .u64 t255, .int .u64 t256] 24 (0, 0)) (by (with_reducible repeat (first | apply bN_16 | apply bD_16 | apply bA_16)); exact BK252.out) hb)
                have n2_ := Aside0.mk (blk_below (g := gb260) (o := .cells #[.int .u64 t257, .int .u64 t258] 24 (0, 0)) (by (with_reducible repeat (first | apply bN_16 | apply bD_16 | apply bA_16)); exact BK260.out) hb)
                have n3_ := Aside0.mk (blk_below (g := gb264) (o := .cells #[.int .u64 t261, .int .u64 t262] 24 (0, 0)) (by (with_reducible repeat (first | apply bN_16 | apply bD_16 | apply bA_16)); exact BK264.out) hb)
                have n4_ := Aside0.mk (below_step (by repeat (first | (with_reducible first | exact HB.out | apply lA_16 | apply lN_16 | apply lD_16 | refine lS_16 ?_ GE251.out | refine lS_16 ?_ GE252.out | refine lS_16 ?_ GE260.out | refine lS_16 ?_ GE264.out) | exact HB.out)) hb)
                clear BK251
                clear BK252
                clear BK260
                clear BK264
                clear HB
                have BK251 := n0_
                have BK252 := n1_
                have BK260 := n2_
                have BK264 := n3_
                have HB := n4_
                clear n0_ n1_ n2_ n3_ n4_
                (try clear hb)
                (try clear hb2)
                (try clear hk)
                (try clear hi)
                refine hK.out _ _ ⟨(blk_cell BK251.out 0).trans rfl, (blk_cell BK251.out 1).trans rfl, (blk_cell BK252.out 0).trans rfl, (blk_cell BK252.out 1).trans rfl, (blk_cell BK260.out 0).trans rfl, (blk_cell BK260.out 1).trans rfl, (blk_cell BK264.out 0).trans rfl, (blk_cell BK264.out 1).trans rfl⟩ (fun hHeld => ?_)
                clear hK K
                refine norm_ (a' := ?_) ?_ ?_
                rotate_left
                · show Act.put _ (some 52) _ = _
                  simp only [Act.put, List.setIfInBounds_toArray, List.set_cons_zero, List.set_cons_succ, i64_w, i32_w]
                  rfl
                refine pure_ (i := 26) (N := some 53) (v := ?_) (a' := ?_) #[true, true, true, true, true, true, true, true, true, true, true, true, true, true, true, true, true, true, true, true, true, true, true, true, true, true, true, false, false, false, false, false, false, false, false, false, false, false, false, false, false, false, false, false, false, false, false, false, false, false, false] rfl rfl (any_of HT_.out (by kernel_rfl)) (fun _ _ _ h => h) (Or.inl ⟨by rfl, ?_⟩) ?_ ?_
                rotate_left
                · intro w'
                  go_simp
                  with_reducible rfl
                rotate_left
                · simp only [Act.put, List.setIfInBounds_toArray, List.set_cons_zero, List.set_cons_succ, i64_w, i32_w]
                  rfl
                refine pure_ (i := 27) (N := some 54) (v := ?_) (a' := ?_) #[true, true, true, true, true, true, true, true, true, true, true, true, true, true, true, true, true, true, true, true, true, true, true, true, true, true, true, true, false, false, false, false, false, false, false, false, false, false, false, false, false, false, false, false, false, false, false, false, false, false, false] rfl rfl (any_of HT_.out (by kernel_rfl)) (fun _ _ _ h => h) (Or.inl ⟨by rfl, ?_⟩) ?_ ?_
                rotate_left
                · intro w'
                  go_simp
                  with_reducible rfl
                rotate_left
                · simp only [Act.put, List.setIfInBounds_toArray, List.set_cons_zero, List.set_cons_succ, i64_w, i32_w]
                  rfl
                refine pure_ (i := 28) (N := some 55) (v := ?_) (a' := ?_) #[true, true, true, true, true, true, true, true, true, true, true, true, true, true, true, true, true, true, true, true, true, true, true, true, true, true, true, true, true, false, false, false, false, false, false, false, false, false, false, false, false, false, false, false, false, false, false, false, false, false, false] rfl rfl (any_of HT_.out (by kernel_rfl)) (fun _ _ _ h => h) (Or.inl ⟨by rfl, ?_⟩) ?_ ?_
                rotate_left
                · intro w'
                  go_simp
                  with_reducible rfl
                rotate_left
                · simp only [Act.put, List.setIfInBounds_toArray, List.set_cons_zero, List.set_cons_succ, i64_w, i32_w]
                  rfl
                refine take_ (i := 29) (N := some 56) (v := ?_) (a' := ?_) #[true, true, true, true, true, true, true, true, true, true, true, true, true, true, true, true, true, true, true, true, true, true, true, true, true, true, true, true, true, true, false, false, false, false, false, false, false, false, false, false, false, false, false, false, false, false, false, false, false, false, false] rfl rfl (take_ofW HT_.out HW_.out (by kernel_rfl)) (fun _ _ _ h => h) (Or.inl ⟨by rfl, ?_⟩) hHeld ?_ ?_
                rotate_left
                · rintro w' ⟨s0, s1, s2, s3, s4, s5, s6, s7⟩
                  go_simp
                  with_reducible rfl
                rotate_left
                · simp only [Act.put, List.setIfInBounds_toArray, List.set_cons_zero, List.set_cons_succ, i64_w, i32_w]
                  rfl
                refine take_ (i := 30) (N := some 57) (v := ?_) (a' := ?_) #[true, true, true, true, true, true, true, true, true, true, true, true, true, true, true, true, true, true, true, true, true, true, true, true, true, true, true, true, true, true, true, false, false, false, false, false, false, false, false, false, false, false, false, false, false, false, false, false, false, false, false] rfl rfl (take_ofW HT_.out HW_.out (by kernel_rfl)) (fun _ _ _ h => h) (Or.inl ⟨by rfl, ?_⟩) hHeld ?_ ?_
                rotate_left
                · rintro w' ⟨s0, s1, s2, s3, s4, s5, s6, s7⟩
                  go_simp
                  with_reducible rfl
                rotate_left
                · simp only [Act.put, List.setIfInBounds_toArray, List.set_cons_zero, List.set_cons_succ, i64_w, i32_w]
                  rfl
                refine take_ (i := 32) (N := some 59) (v := ?_) (a' := ?_) #[true, true, true, true, true, true, true, true, true, true, true, true, true, true, true, true, true, true, true, true, true, true, true, true, true, true, true, true, true, true, true, false, true, false, false, false, false, false, false, false, false, false, false, false, false, false, false, false, false, false, false] rfl rfl (take_ofW HT_.out HW_.out (by kernel_rfl)) (fun _ _ _ h => h) (Or.inl ⟨by rfl, ?_⟩) hHeld ?_ ?_
                rotate_left
                · rintro w' ⟨s0, s1, s2, s3, s4, s5, s6, s7⟩
                  go_simp
                  with_reducible rfl
                rotate_left
                · simp only [Act.put, List.setIfInBounds_toArray, List.set_cons_zero, List.set_cons_succ, i64_w, i32_w]
                  rfl
                refine take_ (i := 33) (N := some 60) (v := ?_) (a' := ?_) #[true, true, true, true, true, true, true, true, true, true, true, true, true, true, true, true, true, true, true, true, true, true, true, true, true, true, true, true, true, true, true, false, true, true, false, false, false, false, false, false, false, false, false, false, false, false, false, false, false, false, false] rfl rfl (take_ofW HT_.out HW_.out (by kernel_rfl)) (fun _ _ _ h => h) (Or.inl ⟨by rfl, ?_⟩) hHeld ?_ ?_
                rotate_left
                · rintro w' ⟨s0, s1, s2, s3, s4, s5, s6, s7⟩
                  go_simp
                  with_reducible rfl
                rotate_left
                · simp only [Act.put, List.setIfInBounds_toArray, List.set_cons_zero, List.set_cons_succ, i64_w, i32_w]
                  rfl
                refine one_ (i := 31) (N := some 58) #[true, true, true, true, true, true, true, true, true, true, true, true, true, true, true, true, true, true, true, true, true, true, true, true, true, true, true, true, true, true, true, true, true, true, false, false, false, false, false, false, false, false, false, false, false, false, false, false, false, false, false] rfl rfl (one_of HT_.out (by kernel_rfl)) (by decide) (fun K hK => ?_)
                refine goes_ Try.func31 (by kernel_rfl) rfl #[.agg #[.int .u64 t253, .int .u64 t254], .agg #[.int .u64 t255, .int .u64 t256]] (by rfl) rfl rfl (by (try simp only [List.map_toArray, List.map_cons, List.map_nil]); first | done | rfl) ?_
                with_reducible refine (tnum_Join.calls t253 t254 t255 t256 t277 t278 _ A20.out).mono ?_
                rintro e w59 ⟨rfl, hb⟩
                refine ⟨_, rfl, ?_⟩
                have n0_ := Aside0.mk (blk_below (g := gb251) (o := .cells #[.int .u64 t253, .int .u64 t254] 24 (0, 0)) (by (with_reducible repeat (first | apply bN_16 | apply bD_16 | apply bA_16)); exact BK251.out) hb)
                have n1_ := Aside0.mk (blk_below (g := gb252) (o := .cells #[.int .u64 t255, .int .u64 t256] 24 (0, 0)) (by (with_reducible repeat (first | apply bN_16 | apply bD_16 | apply bA_16)); exact BK252.out) hb)
                have n2_ := Aside0.mk (blk_below (g := gb260) (o := .cells #[.int .u64 t257, .int .u64 t258] 24 (0, 0)) (by (with_reducible repeat (first | apply bN_16 | apply bD_16 | apply bA_16)); exact BK260.out) hb)
                have n3_ := Aside0.mk (blk_below (g := gb264) (o := .cells #[.int .u64 t261, .int .u64 t262] 24 (0, 0)) (by (with_reducible repeat (first | apply bN_16 | apply bD_16 | apply bA_16)); exact BK264.out) hb)
                have n4_ := Aside0.mk (below_step (by repeat (first | (with_reducible first | exact HB.out | apply lA_16 | apply lN_16 | apply lD_16 | refine lS_16 ?_ GE251.out | refine lS_16 ?_ GE252.out | refine lS_16 ?_ GE260.out | refine lS_16 ?_ GE264.out) | exact HB.out)) hb)
                clear BK251
                clear BK252
                clear BK260
                clear BK264
                clear HB
                have BK251 := n0_
                have BK252 := n1_
                have BK260 := n2_
                have BK264 := n3_
                have HB := n4_
                clear n0_ n1_ n2_ n3_ n4_
                (try clear hb)
                (try clear hb2)
                (try clear hk)
                (try clear hi)
                refine hK.out _ _ ⟨(blk_cell BK251.out 0).trans rfl, (blk_cell BK251.out 1).trans rfl, (blk_cell BK252.out 0).trans rfl, (blk_cell BK252.out 1).trans rfl, (blk_cell BK260.out 0).trans rfl, (blk_cell BK260.out 1).trans rfl, (blk_cell BK264.out 0).trans rfl, (blk_cell BK264.out 1).trans rfl⟩ (fun hHeld => ?_)
                clear hK K
                refine norm_ (a' := ?_) ?_ ?_
                rotate_left
                · show Act.put _ (some 58) _ = _
                  simp only [Act.put, List.setIfInBounds_toArray, List.set_cons_zero, List.set_cons_succ, i64_w, i32_w]
                  rfl
                refine one_ (i := 34) (N := some 61) #[true, true, true, true, true, true, true, true, true, true, true, true, true, true, true, true, true, true, true, true, true, true, true, true, true, true, true, true, true, true, true, true, true, true, true, false, false, false, false, false, false, false, false, false, false, false, false, false, false, false, false] rfl rfl (one_of HT_.out (by kernel_rfl)) (by decide) (fun K hK => ?_)
                refine goes_ Try.func32 (by kernel_rfl) rfl #[.agg #[.int .u64 t253, .int .u64 t254], .agg #[.int .u64 t255, .int .u64 t256]] (by rfl) rfl rfl (by (try simp only [List.map_toArray, List.map_cons, List.map_nil]); first | done | rfl) ?_
                with_reducible refine (lockgateref03_Join.calls k t253 t254 t255 t256 t279 t280 _ A21.out).mono ?_
                rintro e w60 ⟨rfl, hb⟩
                refine ⟨_, rfl, ?_⟩
                have n0_ := Aside0.mk (blk_below (g := gb251) (o := .cells #[.int .u64 t253, .int .u64 t254] 24 (0, 0)) (by (with_reducible repeat (first | apply bN_16 | apply bD_16 | apply bA_16)); exact BK251.out) hb)
                have n1_ := Aside0.mk (blk_below (g := gb252) (o := .cells #[.int .u64 t255, .int .u64 t256] 24 (0, 0)) (by (with_reducible repeat (first | apply bN_16 | apply bD_16 | apply bA_16)); exact BK252.out) hb)
                have n2_ := Aside0.mk (blk_below (g := gb260) (o := .cells #[.int .u64 t257, .int .u64 t258] 24 (0, 0)) (by (with_reducible repeat (first | apply bN_16 | apply bD_16 | apply bA_16)); exact BK260.out) hb)
                have n3_ := Aside0.mk (blk_below (g := gb264) (o := .cells #[.int .u64 t261, .int .u64 t262] 24 (0, 0)) (by (with_reducible repeat (first | apply bN_16 | apply bD_16 | apply bA_16)); exact BK264.out) hb)
                have n4_ := Aside0.mk (below_step (by repeat (first | (with_reducible first | exact HB.out | apply lA_16 | apply lN_16 | apply lD_16 | refine lS_16 ?_ GE251.out | refine lS_16 ?_ GE252.out | refine lS_16 ?_ GE260.out | refine lS_16 ?_ GE264.out) | exact HB.out)) hb)
                clear BK251
                clear BK252
                clear BK260
                clear BK264
                clear HB
                have BK251 := n0_
                have BK252 := n1_
                have BK260 := n2_
                have BK264 := n3_
                have HB := n4_
                clear n0_ n1_ n2_ n3_ n4_
                (try clear hb)
                (try clear hb2)
                (try clear hk)
                (try clear hi)
                refine hK.out _ _ ⟨(blk_cell BK251.out 0).trans rfl, (blk_cell BK251.out 1).trans rfl, (blk_cell BK252.out 0).trans rfl, (blk_cell BK252.out 1).trans rfl, (blk_cell BK260.out 0).trans rfl, (blk_cell BK260.out 1).trans rfl, (blk_cell BK264.out 0).trans rfl, (blk_cell BK264.out 1).trans rfl⟩ (fun hHeld => ?_)
                clear hK K
                refine norm_ (a' := ?_) ?_ ?_
                rotate_left
                · show Act.put _ (some 61) _ = _
                  simp only [Act.put, List.setIfInBounds_toArray, List.set_cons_zero, List.set_cons_succ, i64_w, i32_w]
                  rfl
                refine pure_ (i := 35) (N := some 62) (v := ?_) (a' := ?_) #[true, true, true, true, true, true, true, true, true, true, true, true, true, true, true, true, true, true, true, true, true, true, true, true, true, true, true, true, true, true, true, true, true, true, true, true, false, false, false, false, false, false, false, false, false, false, false, false, false, false, false] rfl rfl (any_of HT_.out (by kernel_rfl)) (fun _ _ _ h => h) (Or.inl ⟨by rfl, ?_⟩) ?_ ?_
                rotate_left
                · intro w'
                  go_simp
                  with_reducible rfl
                rotate_left
                · simp only [Act.put, List.setIfInBounds_toArray, List.set_cons_zero, List.set_cons_succ, i64_w, i32_w]
                  rfl
                refine pure_ (i := 36) (N := some 63) (v := ?_) (a' := ?_) #[true, true, true, true, true, true, true, true, true, true, true, true, true, true, true, true, true, true, true, true, true, true, true, true, true, true, true, true, true, true, true, true, true, true, true, true, true, false, false, false, false, false, false, false, false, false, false, false, false, false, false] rfl rfl (any_of HT_.out (by kernel_rfl)) (fun _ _ _ h => h) (Or.inl ⟨by rfl, ?_⟩) ?_ ?_
                rotate_left
                · intro w'
                  go_simp
                  with_reducible rfl
                rotate_left
                · simp only [Act.put, List.setIfInBounds_toArray, List.set_cons_zero, List.set_cons_succ, i64_w, i32_w]
                  rfl
                refine pure_ (i := 37) (N := some 64) (v := ?_) (a' := ?_) #[true, true, true, true, true, true, true, true, true, true, true, true, true, true, true, true, true, true, true, true, true, true, true, true, true, true, true, true, true, true, true, true, true, true, true, true, true, true, false, false, false, false, false, false, false, false, false, false, false, false, false] rfl rfl (any_of HT_.out (by kernel_rfl)) (fun _ _ _ h => h) (Or.inl ⟨by rfl, ?_⟩) ?_ ?_
                rotate_left
                · intro w'
                  go_simp
                  with_reducible rfl
                rotate_left
                · simp only [Act.put, List.setIfInBounds_toArray, List.set_cons_zero, List.set_cons_succ, i64_w, i32_w]
                  rfl
                refine take_ (i := 38) (N := some 65) (v := ?_) (a' := ?_) #[true, true, true, true, true, true, true, true, true, true, true, true, true, true, true, true, true, true, true, true, true, true, true, true, true, true, true, true, true, true, true, true, true, true, true, true, true, true, true, false, false, false, false, false, false, false, false, false, false, false, false] rfl rfl (take_ofW HT_.out HW_.out (by kernel_rfl)) (fun _ _ _ h => h) (Or.inl ⟨by rfl, ?_⟩) hHeld ?_ ?_
                rotate_left
                · rintro w' ⟨s0, s1, s2, s3, s4, s5, s6, s7⟩
                  go_simp
                  with_reducible rfl
                rotate_left
                · simp only [Act.put, List.setIfInBounds_toArray, List.set_cons_zero, List.set_cons_succ, i64_w, i32_w]
                  rfl
                refine take_ (i := 39) (N := some 66) (v := ?_) (a' := ?_) #[true, true, true, true, true, true, true, true, true, true, true, true, true, true, true, true, true, true, true, true, true, true, true, true, true, true, true, true, true, true, true, true, true, true, true, true, true, true, true, true, false, false, false, false, false, false, false, false, false, false, false] rfl rfl (take_ofW HT_.out HW_.out (by kernel_rfl)) (fun _ _ _ h => h) (Or.inl ⟨by rfl, ?_⟩) hHeld ?_ ?_
                rotate_left
                · rintro w' ⟨s0, s1, s2, s3, s4, s5, s6, s7⟩
                  go_simp
                  with_reducible rfl
                rotate_left
                · simp only [Act.put, List.setIfInBounds_toArray, List.set_cons_zero, List.set_cons_succ, i64_w, i32_w]
                  rfl
                refine pure_ (i := 40) (N := some 67) (v := ?_) (a' := ?_) #[true, true, true, true, true, true, true, true, true, true, true, true, true, true, true, true, true, true, true, true, true, true, true, true, true, true, true, true, true, true, true, true, true, true, true, true, true, true, true, true, true, false, false, false, false, false, false, false, false, false, false] rfl rfl (any_of HT_.out (by kernel_rfl)) (fun _ _ _ h => h) (Or.inl ⟨by rfl, ?_⟩) ?_ ?_
                rotate_left
                · intro w'
                  go_simp
                  with_reducible rfl
                rotate_left
                · simp only [Act.put, List.setIfInBounds_toArray, List.set_cons_zero, List.set_cons_succ, i64_w, i32_w]
                  rfl
                refine pure_ (i := 41) (N := some 68) (v := ?_) (a' := ?_) #[true, true, true, true, true, true, true, true, true, true, true, true, true, true, true, true, true, true, true, true, true, true, true, true, true, true, true, true, true, true, true, true, true, true, true, true, true, true, true, true, true, true, false, false, false, false, false, false, false, false, false] rfl rfl (any_of HT_.out (by kernel_rfl)) (fun _ _ _ h => h) (Or.inl ⟨by rfl, ?_⟩) ?_ ?_
                rotate_left
                · intro w'
                  go_simp
                  with_reducible rfl
                rotate_left
                · simp only [Act.put, List.setIfInBounds_toArray, List.set_cons_zero, List.set_cons_succ, i64_w, i32_w]
                  rfl
                refine pure_ (i := 42) (N := some 69) (v := ?_) (a' := ?_) #[true, true, true, true, true, true, true, true, true, true, true, true, true, true, true, true, true, true, true, true, true, true, true, true, true, true, true, true, true, true, true, true, true, true, true, true, true, true, true, true, true, true, true, false, false, false, false, false, false, false, false] rfl rfl (any_of HT_.out (by kernel_rfl)) (fun _ _ _ h => h) (Or.inl ⟨by rfl, ?_⟩) ?_ ?_
                rotate_left
                · intro w'
                  go_simp
                  with_reducible rfl
                rotate_left
                · simp only [Act.put, List.setIfInBounds_toArray, List.set_cons_zero, List.set_cons_succ, i64_w, i32_w]
                  rfl
                refine pure_ (i := 43) (N := some 70) (v := ?_) (a' := ?_) #[true, true, true, true, true, true, true, true, true, true, true, true, true, true, true, true, true, true, true, true, true, true, true, true, true, true, true, true, true, true, true, true, true, true, true, true, true, true, true, true, true, true, true, true, false, false, false, false, false, false, false] rfl rfl (any_of HT_.out (by kernel_rfl)) (fun _ _ _ h => h) (Or.inl ⟨by rfl, ?_⟩) ?_ ?_
                rotate_left
                · intro w'
                  go_simp
                  with_reducible rfl
                rotate_left
                · simp only [Act.put, List.setIfInBounds_toArray, List.set_cons_zero, List.set_cons_succ, i64_w, i32_w]
                  rfl
                refine pure_ (i := 44) (N := some 71) (v := ?_) (a' := ?_) #[true, true, true, true, true, true, true, true, true, true, true, true, true, true, true, true, true, true, true, true, true, true, true, true, true, true, true, true, true, true, true, true, true, true, true, true, true, true, true, true, true, true, true, true, true, false, false, false, false, false, false] rfl rfl (any_of HT_.out (by kernel_rfl)) (fun _ _ _ h => h) (Or.inl ⟨by rfl, ?_⟩) ?_ ?_
                rotate_left
                · intro w'
                  go_simp
                  with_reducible rfl
                rotate_left
                · simp only [Act.put, List.setIfInBounds_toArray, List.set_cons_zero, List.set_cons_succ, i64_w, i32_w]
                  rfl
                refine pure_ (i := 45) (N := some 72) (v := ?_) (a' := ?_) #[true, true, true, true, true, true, true, true, true, true, true, true, true, true, true, true, true, true, true, true, true, true, true, true, true, true, true, true, true, true, true, true, true, true, true, true, true, true, true, true, true, true, true, true, true, true, false, false, false, false, false] rfl rfl (any_of HT_.out (by kernel_rfl)) (fun _ _ _ h => h) (Or.inl ⟨by rfl, ?_⟩) ?_ ?_
                rotate_left
                · intro w'
                  go_simp
                  with_reducible rfl
                rotate_left
                · simp only [Act.put, List.setIfInBounds_toArray, List.set_cons_zero, List.set_cons_succ, i64_w, i32_w]
                  rfl
                refine pure_ (i := 46) (N := some 73) (v := ?_) (a' := ?_) #[true, true, true, true, true, true, true, true, true, true, true, true, true, true, true, true, true, true, true, true, true, true, true, true, true, true, true, true, true, true, true, true, true, true, true, true, true, true, true, true, true, true, true, true, true, true, true, false, false, false, false] rfl rfl (any_of HT_.out (by kernel_rfl)) (fun _ _ _ h => h) (Or.inl ⟨by rfl, ?_⟩) ?_ ?_
                rotate_left
                · intro w'
                  go_simp
                  with_reducible rfl
                rotate_left
                · simp only [Act.put, List.setIfInBounds_toArray, List.set_cons_zero, List.set_cons_succ, i64_w, i32_w]
                  rfl
                refine pure_ (i := 47) (N := some 74) (v := ?_) (a' := ?_) #[true, true, true, true, true, true, true, true, true, true, true, true, true, true, true, true, true, true, true, true, true, true, true, true, true, true, true, true, true, true, true, true, true, true, true, true, true, true, true, true, true, true, true, true, true, true, true, true, false, false, false] rfl rfl (any_of HT_.out (by kernel_rfl)) (fun _ _ _ h => h) (Or.inl ⟨by rfl, ?_⟩) ?_ ?_
                rotate_left
                · intro w'
                  go_simp
                  with_reducible rfl
                rotate_left
                · simp only [Act.put, List.setIfInBounds_toArray, List.set_cons_zero, List.set_cons_succ, i64_w, i32_w]
                  rfl
                refine one_ (i := 48) (N := some 75) #[true, true, true, true, true, true, true, true, true, true, true, true, true, true, true, true, true, true, true, true, true, true, true, true, true, true, true, true, true, true, true, true, true, true, true, true, true, true, true, true, true, true, true, true, true, true, true, true, true, false, false] rfl rfl (one_of HT_.out (by kernel_rfl)) (by decide) (fun K hK => ?_)
                refine goes_ Try.func16 (by kernel_rfl) rfl #[] (by rfl) rfl rfl (by (try simp only [List.map_toArray, List.map_cons, List.map_nil]); first | done | rfl) ?_
                with_reducible refine (lockgatelaw03_known.calls k  t281 _ A25.out).mono ?_
                rintro e w61 ⟨rfl, hb⟩
                refine ⟨_, rfl, ?_⟩
                have n0_ := Aside0.mk (blk_below (g := gb251) (o := .cells #[.int .u64 t253, .int .u64 t254] 24 (0, 0)) (by (with_reducible repeat (first | apply bN_16 | apply bD_16 | apply bA_16)); exact BK251.out) hb)
                have n1_ := Aside0.mk (blk_below (g := gb252) (o := .cells #[.int .u64 t255, .int .u64 t256] 24 (0, 0)) (by (with_reducible repeat (first | apply bN_16 | apply bD_16 | apply bA_16)); exact BK252.out) hb)
                have n2_ := Aside0.mk (blk_below (g := gb260) (o := .cells #[.int .u64 t257, .int .u64 t258] 24 (0, 0)) (by (with_reducible repeat (first | apply bN_16 | apply bD_16 | apply bA_16)); exact BK260.out) hb)
                have n3_ := Aside0.mk (blk_below (g := gb264) (o := .cells #[.int .u64 t261, .int .u64 t262] 24 (0, 0)) (by (with_reducible repeat (first | apply bN_16 | apply bD_16 | apply bA_16)); exact BK264.out) hb)
                have n4_ := Aside0.mk (below_step (by repeat (first | (with_reducible first | exact HB.out | apply lA_16 | apply lN_16 | apply lD_16 | refine lS_16 ?_ GE251.out | refine lS_16 ?_ GE252.out | refine lS_16 ?_ GE260.out | refine lS_16 ?_ GE264.out) | exact HB.out)) hb)
                clear BK251
                clear BK252
                clear BK260
                clear BK264
                clear HB
                have BK251 := n0_
                have BK252 := n1_
                have BK260 := n2_
                have BK264 := n3_
                have HB := n4_
                clear n0_ n1_ n2_ n3_ n4_
                (try clear hb)
                (try clear hb2)
                (try clear hk)
                (try clear hi)
                refine hK.out _ _ ⟨(blk_cell BK251.out 0).trans rfl, (blk_cell BK251.out 1).trans rfl, (blk_cell BK252.out 0).trans rfl, (blk_cell BK252.out 1).trans rfl, (blk_cell BK260.out 0).trans rfl, (blk_cell BK260.out 1).trans rfl, (blk_cell BK264.out 0).trans rfl, (blk_cell BK264.out 1).trans rfl⟩ (fun hHeld => ?_)
                clear hK K
                refine norm_ (a' := ?_) ?_ ?_
                rotate_left
                · show Act.put _ (some 75) _ = _
                  simp only [Act.put, List.setIfInBounds_toArray, List.set_cons_zero, List.set_cons_succ, i64_w, i32_w]
                  rfl
                refine pure_ (i := 49) (N := some 76) (v := ?_) (a' := ?_) #[true, true, true, true, true, true, true, true, true, true, true, true, true, true, true, true, true, true, true, true, true, true, true, true, true, true, true, true, true, true, true, true, true, true, true, true, true, true, true, true, true, true, true, true, true, true, true, true, true, true, false] rfl rfl (any_of HT_.out (by kernel_rfl)) (fun _ _ _ h => h) (Or.inl ⟨by rfl, ?_⟩) ?_ ?_
                rotate_left
                · intro w'
                  go_simp
                  with_reducible rfl
                rotate_left
                · simp only [Act.put, List.setIfInBounds_toArray, List.set_cons_zero, List.set_cons_succ, i64_w, i32_w]
                  rfl
                refine pure_ (i := 50) (N := some 6) (v := ?_) (a' := ?_) #[true, true, true, true, true, true, true, true, true, true, true, true, true, true, true, true, true, true, true, true, true, true, true, true, true, true, true, true, true, true, true, true, true, true, true, true, true, true, true, true, true, true, true, true, true, true, true, true, true, true, true] rfl rfl (any_of HT_.out (by kernel_rfl)) (fun _ _ _ h => h) (Or.inl ⟨by rfl, ?_⟩) ?_ ?_
                rotate_left
                · intro w'
                  go_simp
                  with_reducible rfl
                rotate_left
                · simp only [Act.put, List.setIfInBounds_toArray, List.set_cons_zero, List.set_cons_succ, i64_w, i32_w]
                  rfl
                refine done_ (done_of HT_.out (by kernel_rfl)) ?_
                try go_wp2
                go_ret
                exact ⟨by first | rfl | (simp [errW_none, errW_some] <;> rfl) | (simp [*, errW_none, errW_some] <;> rfl), by repeat (first | (with_reducible first | exact HB.out | apply lA_16 | apply lN_16 | apply lD_16 | refine lS_16 ?_ GE251.out | refine lS_16 ?_ GE252.out | refine lS_16 ?_ GE260.out | refine lS_16 ?_ GE264.out) | exact HB.out)⟩
              · rw [if_neg c24] at H
                have c24b0 : (t259 == t263) = false := by simpa using c24
                (try (have c24b1 : decide (t259 = t263) = false := by simpa using c24))
                (try (have c24b2 : (t259 == t263) = false := by simpa using c24))
                (try (have c24b3 : ¬ (t259 = t263) := by simpa using c24))
                clear c24
                exact absurd ((Option.some.inj H).trans HRT.out) (by decide)
            · rw [if_neg c23] at H
              have c23b0 : (t257 == t261 && (t258 == t262)) = false := by simpa using c23
              (try (have c23b1 : decide (t257 = t261 && (t258 == t262)) = false := by simpa using c23))
              (try (have c23b2 : (t257 == t261 && (t258 == t262)) = false := by simpa using c23))
              (try (have c23b3 : ¬ (t257 = t261 && (t258 == t262)) := by simpa using c23))
              clear c23
              exact absurd ((Option.some.inj H).trans HRT.out) (by decide)
          · rw [if_neg c22] at H
            have c22b0 : (t277 == t279 && (t278 == t280)) = false := by simpa using c22
            (try (have c22b1 : decide (t277 = t279 && (t278 == t280)) = false := by simpa using c22))
            (try (have c22b2 : (t277 == t279 && (t278 == t280)) = false := by simpa using c22))
            (try (have c22b3 : ¬ (t277 = t279 && (t278 == t280)) := by simpa using c22))
            clear c22
            exact absurd ((Option.some.inj H).trans HRT.out) (by decide)
        · rw [if_neg c19] at H
          have c19b0 : (t275 == t276) = false := by simpa using c19
          (try (have c19b1 : decide (t275 = t276) = false := by simpa using c19))
          (try (have c19b2 : (t275 == t276) = false := by simpa using c19))
          (try (have c19b3 : ¬ (t275 = t276) := by simpa using c19))
          clear c19
          exact absurd ((Option.some.inj H).trans HRT.out) (by decide)
      · rw [if_neg c16] at H
        have c16b0 : (t273 == t274) = false := by simpa using c16
        (try (have c16b1 : decide (t273 = t274) = false := by simpa using c16))
        (try (have c16b2 : (t273 == t274) = false := by simpa using c16))
        (try (have c16b3 : ¬ (t273 = t274) := by simpa using c16))
        clear c16
        exact absurd ((Option.some.inj H).trans HRT.out) (by decide)
    · rw [if_neg c13] at H
      have c13b0 : (t269 == t271 && (t270 == t272)) = false := by simpa using c13
      (try (have c13b1 : decide (t269 = t271 && (t270 == t272)) = false := by simpa using c13))
      (try (have c13b2 : (t269 == t271 && (t270 == t272)) = false := by simpa using c13))
      (try (have c13b3 : ¬ (t269 = t271 && (t270 == t272)) := by simpa using c13))
      clear c13
      exact absurd ((Option.some.inj H).trans HRT.out) (by decide)
  · rw [if_neg c10] at H
    have c10b0 : (t265 == t267 && (t266 == t268)) = false := by simpa using c10
    (try (have c10b1 : decide (t265 = t267 && (t266 == t268)) = false := by simpa using c10))
    (try (have c10b2 : (t265 == t267 && (t266 == t268)) = false := by simpa using c10))
    (try (have c10b3 : ¬ (t265 = t267 && (t266 == t268)) := by simpa using c10))
    clear c10
    exact absurd ((Option.some.inj H).trans HRT.out) (by decide)

end Go.Proofs.Ytkmnogcahpbdjaa.PA
