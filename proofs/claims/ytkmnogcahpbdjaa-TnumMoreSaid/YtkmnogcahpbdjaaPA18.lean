-- PRINTED by print.py (a twelfth state) out of the translation. Not trusted: Lean checks it.
import Derived.Test.YtkmnogcahpbdjaaPA0
import Derived.Test.YtkmnogcahpbdjaaPA2
import Derived.Test.YtkmnogcahpbdjaaPA4
import Derived.Test.YtkmnogcahpbdjaaPA13
namespace Go.Proofs.Ytkmnogcahpbdjaa.PA
open Go.RowKit Go.Proofs.YtkmnogcahpbdjaaW.PrintWords Go.Proofs.YtkmnogcahpbdjaaW.PrintLast Go.Proofs.YtkmnogcahpbdjaaW.PrintMore
attribute [local go_sem] max2_int min2_int max_two min_two max_three min_three max_four min_four   -- for this text's walks alone
set_option linter.defProp false
def bN_18 := @blk_drewN
def bD_18 := @blk_drew
def bA_18 := @blk_alloc
def lA_18 := @below_alloc
def lN_18 := @pw_below_drewN
def lD_18 := @below_drew1
def lS_18 := @below_set
set_option linter.unusedVariables false
set_option linter.unusedSimpArgs false

/-! ### lockgatelaw03_TnumMore: function 7 -/
def lockgatelaw03_TnumMore.f (k : Nat) (a0_0 : Int) (a0_1 : Int) (a1_0 : Int) (a1_1 : Int) (a2 : Int) (a3 : Int) (a4 : Int) : Option (Bool) := (lockgatelaw03_May.f a0_0 a0_1).bind fun bt338 => ((lockgatelaw03_May.f a1_0 a1_1).bind fun bt340 => ((lockgatelaw03_one.f bt338.1 bt338.2 a2).bind fun t342 => ((lockgatelaw03_May.f t342 (Go.bits .and .u64 bt338.2 a3)).bind fun bt343 => ((tnum_Within.f bt343.1 bt343.2 bt338.1 bt338.2).bind fun t346 => (if t346 = true then ((tnum_Add.f bt343.1 bt343.2 bt340.1 bt340.2).bind fun bt347 => ((tnum_Add.f bt338.1 bt338.2 bt340.1 bt340.2).bind fun bt349 => ((tnum_Within.f bt347.1 bt347.2 bt349.1 bt349.2).bind fun t351 => (if t351 = true then ((tnum_Sub.f bt343.1 bt343.2 bt340.1 bt340.2).bind fun bt352 => ((tnum_Sub.f bt338.1 bt338.2 bt340.1 bt340.2).bind fun bt354 => ((tnum_Within.f bt352.1 bt352.2 bt354.1 bt354.2).bind fun t356 => (if t356 = true then ((tnum_Sub.f bt340.1 bt340.2 bt343.1 bt343.2).bind fun bt357 => ((tnum_Sub.f bt340.1 bt340.2 bt338.1 bt338.2).bind fun bt359 => ((tnum_Within.f bt357.1 bt357.2 bt359.1 bt359.2).bind fun t361 => (if t361 = true then ((tnum_And.f bt343.1 bt343.2 bt340.1 bt340.2).bind fun bt362 => ((tnum_And.f bt338.1 bt338.2 bt340.1 bt340.2).bind fun bt364 => ((tnum_Within.f bt362.1 bt362.2 bt364.1 bt364.2).bind fun t366 => (if t366 = true then ((tnum_Or.f bt343.1 bt343.2 bt340.1 bt340.2).bind fun bt367 => ((tnum_Or.f bt338.1 bt338.2 bt340.1 bt340.2).bind fun bt369 => ((tnum_Within.f bt367.1 bt367.2 bt369.1 bt369.2).bind fun t371 => (if t371 = true then ((tnum_Xor.f bt343.1 bt343.2 bt340.1 bt340.2).bind fun bt372 => ((tnum_Xor.f bt338.1 bt338.2 bt340.1 bt340.2).bind fun bt374 => ((tnum_Within.f bt372.1 bt372.2 bt374.1 bt374.2).bind fun t376 => (if t376 = true then ((tnum_Lsh.f bt343.1 bt343.2 a4).bind fun bt377 => ((tnum_Lsh.f bt338.1 bt338.2 a4).bind fun bt379 => ((tnum_Within.f bt377.1 bt377.2 bt379.1 bt379.2).bind fun t381 => (if t381 = true then ((tnum_Arsh.f bt343.1 bt343.2 a4 64).bind fun bt382 => ((tnum_Arsh.f bt338.1 bt338.2 a4 64).bind fun bt384 => ((tnum_Within.f bt382.1 bt382.2 bt384.1 bt384.2).bind fun t386 => (if t386 = true then ((lockgatelaw03_known.f k).bind fun t387 => (some t387)) else (some false))))) else (some false))))) else (some false))))) else (some false))))) else (some false))))) else (some false))))) else (some false))))) else (some false))))) else (some false))))))
theorem lockgatelaw03_TnumMore.mono : ∀ a0 a1 a2 a3 a4 a5 a6 k, LeO (lockgatelaw03_TnumMore.f k a0 a1 a2 a3 a4 a5 a6) (lockgatelaw03_TnumMore.f (k + 1) a0 a1 a2 a3 a4 a5 a6) := by
  intro a0 a1 a2 a3 a4 a5 a6 k
  unfold lockgatelaw03_TnumMore.f
  repeat' first
      | (with_reducible exact lockgatelaw03_known.mono _)
      | (with_reducible exact LeO.refl _)
      | (with_reducible exact LeO.none _)
      | (with_reducible refine LeO.ite ?_ ?_)
      | (with_reducible refine LeO.bind ?_ (fun _ => ?_))
      | exact lockgatelaw03_known.mono _
      | exact LeO.none _
      | refine LeO.ite ?_ ?_
      | refine LeO.bind ?_ (fun _ => ?_)
def lockgatelaw03_TnumMore.T3 : Bool × List (List Nat × List Nat) := (true, [([], []), ([], []), ([0, 1], [0, 1]), ([], []), ([3], [3]), ([], []), ([4, 5], [4, 5]), ([2, 6], [2, 6]), ([7, 2], [7]), ([], []), ([9, 8, 8, 0, 1, 2, 3, 4, 5, 6, 7, 8, 9], [8, 9])])
def lockgatelaw03_TnumMore.B3 : List Nat := [0, 0, 3, 0, 8, 0, 56, 127, 255, 0, 1023]
theorem lockgatelaw03_TnumMore.tab3 : rtab .any (opsOf Try.f7 3) = lockgatelaw03_TnumMore.T3 := by kernel_rfl
theorem lockgatelaw03_TnumMore.bits3 : waitsOk lockgatelaw03_TnumMore.T3.2 lockgatelaw03_TnumMore.B3 = true := by kernel_rfl
def lockgatelaw03_TnumMore.T6 : Bool × List (List Nat × List Nat) := (true, [([], []), ([], []), ([0, 1], [0, 1]), ([], []), ([], []), ([3, 4, 2], [3, 4]), ([2, 5, 5], [2, 5]), ([6, 6], [6]), ([7], [7]), ([7], [7]), ([8, 9, 7, 7], [7, 8, 9]), ([7], [7]), ([7], [7]), ([11, 12, 10, 7], [7, 11, 12]), ([10, 13, 13, 7], [7, 10, 13]), ([7, 14], [7, 14]), ([15, 14], [15]), ([16], [16]), ([16], [16]), ([17, 18, 16, 16], [16, 17, 18]), ([16], [16]), ([16], [16]), ([20, 21, 19, 16], [16, 20, 21]), ([19, 22, 22, 16], [16, 19, 22]), ([16, 23], [16, 23]), ([24, 23], [24]), ([25], [25]), ([25], [25]), ([26, 27, 25, 25], [25, 26, 27]), ([25], [25]), ([25], [25]), ([29, 30, 28, 25], [25, 29, 30]), ([28, 31, 31, 25], [25, 28, 31]), ([25, 32], [25, 32]), ([33, 32], [33]), ([34], [34]), ([34], [34]), ([35, 36, 34, 34], [34, 35, 36]), ([34], [34]), ([34], [34]), ([38, 39, 37, 34], [34, 38, 39]), ([37, 40, 40, 34], [34, 37, 40]), ([34, 41], [34, 41]), ([42, 41], [42]), ([43], [43]), ([43], [43]), ([44, 45, 43, 43], [43, 44, 45]), ([43], [43]), ([43], [43]), ([47, 48, 46, 43], [43, 47, 48]), ([46, 49, 49, 43], [43, 46, 49]), ([43, 50], [43, 50]), ([51, 50], [51]), ([52], [52]), ([52], [52]), ([53, 54, 52, 52], [52, 53, 54]), ([52], [52]), ([52], [52]), ([56, 57, 55, 52], [52, 56, 57]), ([55, 58, 58, 52], [52, 55, 58]), ([52, 59], [52, 59]), ([60, 59], [60]), ([61], [61]), ([61], [61]), ([62, 63, 61, 61], [61, 62, 63]), ([61], [61]), ([61], [61]), ([65, 66, 64, 61], [61, 65, 66]), ([64, 67, 67, 61], [61, 64, 67]), ([61, 68], [61, 68]), ([69, 68], [69]), ([70, 70], [70]), ([70, 71], [70, 71]), ([72, 71, 0, 1, 2, 3, 4, 5, 6, 7, 8, 9, 10, 11, 12, 13, 14, 15, 16, 17, 18, 19, 20, 21, 22, 23, 24, 25, 26, 27, 28, 29, 30, 31, 32, 33, 34, 35, 36, 37, 38, 39, 40, 41, 42, 43, 44, 45, 46, 47, 48, 49, 50, 51, 52, 53, 54, 55, 56, 57, 58, 59, 60, 61, 62, 63, 64, 65, 66, 67, 68, 69, 70, 71, 72], [72])])
def lockgatelaw03_TnumMore.B6 : List Nat := [0, 0, 3, 0, 0, 31, 63, 127, 255, 255, 1023, 255, 255, 8191, 16383, 32767, 65535, 131071, 131071, 524287, 131071, 131071, 4194303, 8388607, 16777215, 33554431, 67108863, 67108863, 268435455, 67108863, 67108863, 2147483647, 4294967295, 8589934591, 17179869183, 34359738367, 34359738367, 137438953471, 34359738367, 34359738367, 1099511627775, 2199023255551, 4398046511103, 8796093022207, 17592186044415, 17592186044415, 70368744177663, 17592186044415, 17592186044415, 562949953421311, 1125899906842623, 2251799813685247, 4503599627370495, 9007199254740991, 9007199254740991, 36028797018963967, 9007199254740991, 9007199254740991, 288230376151711743, 576460752303423487, 1152921504606846975, 2305843009213693951, 4611686018427387903, 4611686018427387903, 18446744073709551615, 4611686018427387903, 4611686018427387903, 147573952589676412927, 295147905179352825855, 590295810358705651711, 1180591620717411303423, 2361183241434822606847, 4722366482869645213695, 9444732965739290427391]
theorem lockgatelaw03_TnumMore.tab6 : rtab .any (opsOf Try.f7 6) = lockgatelaw03_TnumMore.T6 := by kernel_rfl
theorem lockgatelaw03_TnumMore.bits6 : waitsOk lockgatelaw03_TnumMore.T6.2 lockgatelaw03_TnumMore.B6 = true := by kernel_rfl
set_option maxHeartbeats 8000000 in
set_option maxRecDepth 100000 in
theorem lockgatelaw03_TnumMore.calls (k : Nat) (a0_0 : Int) (a0_1 : Int) (a1_0 : Int) (a1_1 : Int) (a2 : Int) (a3 : Int) (a4 : Int) (r : Bool) (w : World) (HRT : Aside0 (r = true)) (h : lockgatelaw03_TnumMore.f k a0_0 a0_1 a1_0 a1_1 a2 a3 a4 = some r) :
    Calls Try.prog 7 #[.agg #[.int .u64 a0_0, .int .u64 a0_1], .agg #[.int .u64 a1_0, .int .u64 a1_1], .int .u64 a2, .int .u64 a3, .int .i64 a4] w fun e w' => e = .returned (.bool r) ∧ Below w.heap.size w w' := by
  have hu24 := Try.underlying24
  have HB := Aside0.mk (Below.refl w.heap.size w)
  have H : ((lockgatelaw03_May.f a0_0 a0_1).bind fun bt338 => ((lockgatelaw03_May.f a1_0 a1_1).bind fun bt340 => ((lockgatelaw03_one.f bt338.1 bt338.2 a2).bind fun t342 => ((lockgatelaw03_May.f t342 (Go.bits .and .u64 bt338.2 a3)).bind fun bt343 => ((tnum_Within.f bt343.1 bt343.2 bt338.1 bt338.2).bind fun t346 => (if t346 = true then ((tnum_Add.f bt343.1 bt343.2 bt340.1 bt340.2).bind fun bt347 => ((tnum_Add.f bt338.1 bt338.2 bt340.1 bt340.2).bind fun bt349 => ((tnum_Within.f bt347.1 bt347.2 bt349.1 bt349.2).bind fun t351 => (if t351 = true then ((tnum_Sub.f bt343.1 bt343.2 bt340.1 bt340.2).bind fun bt352 => ((tnum_Sub.f bt338.1 bt338.2 bt340.1 bt340.2).bind fun bt354 => ((tnum_Within.f bt352.1 bt352.2 bt354.1 bt354.2).bind fun t356 => (if t356 = true then ((tnum_Sub.f bt340.1 bt340.2 bt343.1 bt343.2).bind fun bt357 => ((tnum_Sub.f bt340.1 bt340.2 bt338.1 bt338.2).bind fun bt359 => ((tnum_Within.f bt357.1 bt357.2 bt359.1 bt359.2).bind fun t361 => (if t361 = true then ((tnum_And.f bt343.1 bt343.2 bt340.1 bt340.2).bind fun bt362 => ((tnum_And.f bt338.1 bt338.2 bt340.1 bt340.2).bind fun bt364 => ((tnum_Within.f bt362.1 bt362.2 bt364.1 bt364.2).bind fun t366 => (if t366 = true then ((tnum_Or.f bt343.1 bt343.2 bt340.1 bt340.2).bind fun bt367 => ((tnum_Or.f bt338.1 bt338.2 bt340.1 bt340.2).bind fun bt369 => ((tnum_Within.f bt367.1 bt367.2 bt369.1 bt369.2).bind fun t371 => (if t371 = true then ((tnum_Xor.f bt343.1 bt343.2 bt340.1 bt340.2).bind fun bt372 => ((tnum_Xor.f bt338.1 bt338.2 bt340.1 bt340.2).bind fun bt374 => ((tnum_Within.f bt372.1 bt372.2 bt374.1 bt374.2).bind fun t376 => (if t376 = true then ((tnum_Lsh.f bt343.1 bt343.2 a4).bind fun bt377 => ((tnum_Lsh.f bt338.1 bt338.2 a4).bind fun bt379 => ((tnum_Within.f bt377.1 bt377.2 bt379.1 bt379.2).bind fun t381 => (if t381 = true then ((tnum_Arsh.f bt343.1 bt343.2 a4 64).bind fun bt382 => ((tnum_Arsh.f bt338.1 bt338.2 a4 64).bind fun bt384 => ((tnum_Within.f bt382.1 bt382.2 bt384.1 bt384.2).bind fun t386 => (if t386 = true then ((lockgatelaw03_known.f k).bind fun t387 => (some t387)) else (some false))))) else (some false))))) else (some false))))) else (some false))))) else (some false))))) else (some false))))) else (some false))))) else (some false))))) else (some false))))))) = some r := h
  clear h
  replace H := Option.bind_eq_some_iff.mp H
  obtain ⟨⟨t338, t339⟩, A60, H⟩ := H
  replace H : ((lockgatelaw03_May.f a1_0 a1_1).bind fun bt340 => ((lockgatelaw03_one.f t338 t339 a2).bind fun t342 => ((lockgatelaw03_May.f t342 (Go.bits .and .u64 t339 a3)).bind fun bt343 => ((tnum_Within.f bt343.1 bt343.2 t338 t339).bind fun t346 => (if t346 = true then ((tnum_Add.f bt343.1 bt343.2 bt340.1 bt340.2).bind fun bt347 => ((tnum_Add.f t338 t339 bt340.1 bt340.2).bind fun bt349 => ((tnum_Within.f bt347.1 bt347.2 bt349.1 bt349.2).bind fun t351 => (if t351 = true then ((tnum_Sub.f bt343.1 bt343.2 bt340.1 bt340.2).bind fun bt352 => ((tnum_Sub.f t338 t339 bt340.1 bt340.2).bind fun bt354 => ((tnum_Within.f bt352.1 bt352.2 bt354.1 bt354.2).bind fun t356 => (if t356 = true then ((tnum_Sub.f bt340.1 bt340.2 bt343.1 bt343.2).bind fun bt357 => ((tnum_Sub.f bt340.1 bt340.2 t338 t339).bind fun bt359 => ((tnum_Within.f bt357.1 bt357.2 bt359.1 bt359.2).bind fun t361 => (if t361 = true then ((tnum_And.f bt343.1 bt343.2 bt340.1 bt340.2).bind fun bt362 => ((tnum_And.f t338 t339 bt340.1 bt340.2).bind fun bt364 => ((tnum_Within.f bt362.1 bt362.2 bt364.1 bt364.2).bind fun t366 => (if t366 = true then ((tnum_Or.f bt343.1 bt343.2 bt340.1 bt340.2).bind fun bt367 => ((tnum_Or.f t338 t339 bt340.1 bt340.2).bind fun bt369 => ((tnum_Within.f bt367.1 bt367.2 bt369.1 bt369.2).bind fun t371 => (if t371 = true then ((tnum_Xor.f bt343.1 bt343.2 bt340.1 bt340.2).bind fun bt372 => ((tnum_Xor.f t338 t339 bt340.1 bt340.2).bind fun bt374 => ((tnum_Within.f bt372.1 bt372.2 bt374.1 bt374.2).bind fun t376 => (if t376 = true then ((tnum_Lsh.f bt343.1 bt343.2 a4).bind fun bt377 => ((tnum_Lsh.f t338 t339 a4).bind fun bt379 => ((tnum_Within.f bt377.1 bt377.2 bt379.1 bt379.2).bind fun t381 => (if t381 = true then ((tnum_Arsh.f bt343.1 bt343.2 a4 64).bind fun bt382 => ((tnum_Arsh.f t338 t339 a4 64).bind fun bt384 => ((tnum_Within.f bt382.1 bt382.2 bt384.1 bt384.2).bind fun t386 => (if t386 = true then ((lockgatelaw03_known.f k).bind fun t387 => (some t387)) else (some false))))) else (some false))))) else (some false))))) else (some false))))) else (some false))))) else (some false))))) else (some false))))) else (some false))))) else (some false)))))) = some r := H
  have A6 := Aside0.mk A60
  clear A60
  replace H := Option.bind_eq_some_iff.mp H
  obtain ⟨⟨t340, t341⟩, A70, H⟩ := H
  replace H : ((lockgatelaw03_one.f t338 t339 a2).bind fun t342 => ((lockgatelaw03_May.f t342 (Go.bits .and .u64 t339 a3)).bind fun bt343 => ((tnum_Within.f bt343.1 bt343.2 t338 t339).bind fun t346 => (if t346 = true then ((tnum_Add.f bt343.1 bt343.2 t340 t341).bind fun bt347 => ((tnum_Add.f t338 t339 t340 t341).bind fun bt349 => ((tnum_Within.f bt347.1 bt347.2 bt349.1 bt349.2).bind fun t351 => (if t351 = true then ((tnum_Sub.f bt343.1 bt343.2 t340 t341).bind fun bt352 => ((tnum_Sub.f t338 t339 t340 t341).bind fun bt354 => ((tnum_Within.f bt352.1 bt352.2 bt354.1 bt354.2).bind fun t356 => (if t356 = true then ((tnum_Sub.f t340 t341 bt343.1 bt343.2).bind fun bt357 => ((tnum_Sub.f t340 t341 t338 t339).bind fun bt359 => ((tnum_Within.f bt357.1 bt357.2 bt359.1 bt359.2).bind fun t361 => (if t361 = true then ((tnum_And.f bt343.1 bt343.2 t340 t341).bind fun bt362 => ((tnum_And.f t338 t339 t340 t341).bind fun bt364 => ((tnum_Within.f bt362.1 bt362.2 bt364.1 bt364.2).bind fun t366 => (if t366 = true then ((tnum_Or.f bt343.1 bt343.2 t340 t341).bind fun bt367 => ((tnum_Or.f t338 t339 t340 t341).bind fun bt369 => ((tnum_Within.f bt367.1 bt367.2 bt369.1 bt369.2).bind fun t371 => (if t371 = true then ((tnum_Xor.f bt343.1 bt343.2 t340 t341).bind fun bt372 => ((tnum_Xor.f t338 t339 t340 t341).bind fun bt374 => ((tnum_Within.f bt372.1 bt372.2 bt374.1 bt374.2).bind fun t376 => (if t376 = true then ((tnum_Lsh.f bt343.1 bt343.2 a4).bind fun bt377 => ((tnum_Lsh.f t338 t339 a4).bind fun bt379 => ((tnum_Within.f bt377.1 bt377.2 bt379.1 bt379.2).bind fun t381 => (if t381 = true then ((tnum_Arsh.f bt343.1 bt343.2 a4 64).bind fun bt382 => ((tnum_Arsh.f t338 t339 a4 64).bind fun bt384 => ((tnum_Within.f bt382.1 bt382.2 bt384.1 bt384.2).bind fun t386 => (if t386 = true then ((lockgatelaw03_known.f k).bind fun t387 => (some t387)) else (some false))))) else (some false))))) else (some false))))) else (some false))))) else (some false))))) else (some false))))) else (some false))))) else (some false))))) else (some false))))) = some r := H
  have A7 := Aside0.mk A70
  clear A70
  replace H := Option.bind_eq_some_iff.mp H
  obtain ⟨t342, A80, H⟩ := H
  replace H : ((lockgatelaw03_May.f t342 (Go.bits .and .u64 t339 a3)).bind fun bt343 => ((tnum_Within.f bt343.1 bt343.2 t338 t339).bind fun t346 => (if t346 = true then ((tnum_Add.f bt343.1 bt343.2 t340 t341).bind fun bt347 => ((tnum_Add.f t338 t339 t340 t341).bind fun bt349 => ((tnum_Within.f bt347.1 bt347.2 bt349.1 bt349.2).bind fun t351 => (if t351 = true then ((tnum_Sub.f bt343.1 bt343.2 t340 t341).bind fun bt352 => ((tnum_Sub.f t338 t339 t340 t341).bind fun bt354 => ((tnum_Within.f bt352.1 bt352.2 bt354.1 bt354.2).bind fun t356 => (if t356 = true then ((tnum_Sub.f t340 t341 bt343.1 bt343.2).bind fun bt357 => ((tnum_Sub.f t340 t341 t338 t339).bind fun bt359 => ((tnum_Within.f bt357.1 bt357.2 bt359.1 bt359.2).bind fun t361 => (if t361 = true then ((tnum_And.f bt343.1 bt343.2 t340 t341).bind fun bt362 => ((tnum_And.f t338 t339 t340 t341).bind fun bt364 => ((tnum_Within.f bt362.1 bt362.2 bt364.1 bt364.2).bind fun t366 => (if t366 = true then ((tnum_Or.f bt343.1 bt343.2 t340 t341).bind fun bt367 => ((tnum_Or.f t338 t339 t340 t341).bind fun bt369 => ((tnum_Within.f bt367.1 bt367.2 bt369.1 bt369.2).bind fun t371 => (if t371 = true then ((tnum_Xor.f bt343.1 bt343.2 t340 t341).bind fun bt372 => ((tnum_Xor.f t338 t339 t340 t341).bind fun bt374 => ((tnum_Within.f bt372.1 bt372.2 bt374.1 bt374.2).bind fun t376 => (if t376 = true then ((tnum_Lsh.f bt343.1 bt343.2 a4).bind fun bt377 => ((tnum_Lsh.f t338 t339 a4).bind fun bt379 => ((tnum_Within.f bt377.1 bt377.2 bt379.1 bt379.2).bind fun t381 => (if t381 = true then ((tnum_Arsh.f bt343.1 bt343.2 a4 64).bind fun bt382 => ((tnum_Arsh.f t338 t339 a4 64).bind fun bt384 => ((tnum_Within.f bt382.1 bt382.2 bt384.1 bt384.2).bind fun t386 => (if t386 = true then ((lockgatelaw03_known.f k).bind fun t387 => (some t387)) else (some false))))) else (some false))))) else (some false))))) else (some false))))) else (some false))))) else (some false))))) else (some false))))) else (some false))))) else (some false)))) = some r := H
  have A8 := Aside0.mk A80
  clear A80
  replace H := Option.bind_eq_some_iff.mp H
  obtain ⟨⟨t343, t344⟩, A90, H⟩ := H
  replace H : ((tnum_Within.f t343 t344 t338 t339).bind fun t346 => (if t346 = true then ((tnum_Add.f t343 t344 t340 t341).bind fun bt347 => ((tnum_Add.f t338 t339 t340 t341).bind fun bt349 => ((tnum_Within.f bt347.1 bt347.2 bt349.1 bt349.2).bind fun t351 => (if t351 = true then ((tnum_Sub.f t343 t344 t340 t341).bind fun bt352 => ((tnum_Sub.f t338 t339 t340 t341).bind fun bt354 => ((tnum_Within.f bt352.1 bt352.2 bt354.1 bt354.2).bind fun t356 => (if t356 = true then ((tnum_Sub.f t340 t341 t343 t344).bind fun bt357 => ((tnum_Sub.f t340 t341 t338 t339).bind fun bt359 => ((tnum_Within.f bt357.1 bt357.2 bt359.1 bt359.2).bind fun t361 => (if t361 = true then ((tnum_And.f t343 t344 t340 t341).bind fun bt362 => ((tnum_And.f t338 t339 t340 t341).bind fun bt364 => ((tnum_Within.f bt362.1 bt362.2 bt364.1 bt364.2).bind fun t366 => (if t366 = true then ((tnum_Or.f t343 t344 t340 t341).bind fun bt367 => ((tnum_Or.f t338 t339 t340 t341).bind fun bt369 => ((tnum_Within.f bt367.1 bt367.2 bt369.1 bt369.2).bind fun t371 => (if t371 = true then ((tnum_Xor.f t343 t344 t340 t341).bind fun bt372 => ((tnum_Xor.f t338 t339 t340 t341).bind fun bt374 => ((tnum_Within.f bt372.1 bt372.2 bt374.1 bt374.2).bind fun t376 => (if t376 = true then ((tnum_Lsh.f t343 t344 a4).bind fun bt377 => ((tnum_Lsh.f t338 t339 a4).bind fun bt379 => ((tnum_Within.f bt377.1 bt377.2 bt379.1 bt379.2).bind fun t381 => (if t381 = true then ((tnum_Arsh.f t343 t344 a4 64).bind fun bt382 => ((tnum_Arsh.f t338 t339 a4 64).bind fun bt384 => ((tnum_Within.f bt382.1 bt382.2 bt384.1 bt384.2).bind fun t386 => (if t386 = true then ((lockgatelaw03_known.f k).bind fun t387 => (some t387)) else (some false))))) else (some false))))) else (some false))))) else (some false))))) else (some false))))) else (some false))))) else (some false))))) else (some false))))) else (some false))) = some r := H
  have A9 := Aside0.mk A90
  clear A90
  replace H := Option.bind_eq_some_iff.mp H
  obtain ⟨t346, A100, H⟩ := H
  replace H : (if t346 = true then ((tnum_Add.f t343 t344 t340 t341).bind fun bt347 => ((tnum_Add.f t338 t339 t340 t341).bind fun bt349 => ((tnum_Within.f bt347.1 bt347.2 bt349.1 bt349.2).bind fun t351 => (if t351 = true then ((tnum_Sub.f t343 t344 t340 t341).bind fun bt352 => ((tnum_Sub.f t338 t339 t340 t341).bind fun bt354 => ((tnum_Within.f bt352.1 bt352.2 bt354.1 bt354.2).bind fun t356 => (if t356 = true then ((tnum_Sub.f t340 t341 t343 t344).bind fun bt357 => ((tnum_Sub.f t340 t341 t338 t339).bind fun bt359 => ((tnum_Within.f bt357.1 bt357.2 bt359.1 bt359.2).bind fun t361 => (if t361 = true then ((tnum_And.f t343 t344 t340 t341).bind fun bt362 => ((tnum_And.f t338 t339 t340 t341).bind fun bt364 => ((tnum_Within.f bt362.1 bt362.2 bt364.1 bt364.2).bind fun t366 => (if t366 = true then ((tnum_Or.f t343 t344 t340 t341).bind fun bt367 => ((tnum_Or.f t338 t339 t340 t341).bind fun bt369 => ((tnum_Within.f bt367.1 bt367.2 bt369.1 bt369.2).bind fun t371 => (if t371 = true then ((tnum_Xor.f t343 t344 t340 t341).bind fun bt372 => ((tnum_Xor.f t338 t339 t340 t341).bind fun bt374 => ((tnum_Within.f bt372.1 bt372.2 bt374.1 bt374.2).bind fun t376 => (if t376 = true then ((tnum_Lsh.f t343 t344 a4).bind fun bt377 => ((tnum_Lsh.f t338 t339 a4).bind fun bt379 => ((tnum_Within.f bt377.1 bt377.2 bt379.1 bt379.2).bind fun t381 => (if t381 = true then ((tnum_Arsh.f t343 t344 a4 64).bind fun bt382 => ((tnum_Arsh.f t338 t339 a4 64).bind fun bt384 => ((tnum_Within.f bt382.1 bt382.2 bt384.1 bt384.2).bind fun t386 => (if t386 = true then ((lockgatelaw03_known.f k).bind fun t387 => (some t387)) else (some false))))) else (some false))))) else (some false))))) else (some false))))) else (some false))))) else (some false))))) else (some false))))) else (some false))))) else (some false)) = some r := H
  have A10 := Aside0.mk A100
  clear A100
  by_cases c11 : t346 = true
  · subst c11
    have H1 : ((tnum_Add.f t343 t344 t340 t341).bind fun bt347 => ((tnum_Add.f t338 t339 t340 t341).bind fun bt349 => ((tnum_Within.f bt347.1 bt347.2 bt349.1 bt349.2).bind fun t351 => (if t351 = true then ((tnum_Sub.f t343 t344 t340 t341).bind fun bt352 => ((tnum_Sub.f t338 t339 t340 t341).bind fun bt354 => ((tnum_Within.f bt352.1 bt352.2 bt354.1 bt354.2).bind fun t356 => (if t356 = true then ((tnum_Sub.f t340 t341 t343 t344).bind fun bt357 => ((tnum_Sub.f t340 t341 t338 t339).bind fun bt359 => ((tnum_Within.f bt357.1 bt357.2 bt359.1 bt359.2).bind fun t361 => (if t361 = true then ((tnum_And.f t343 t344 t340 t341).bind fun bt362 => ((tnum_And.f t338 t339 t340 t341).bind fun bt364 => ((tnum_Within.f bt362.1 bt362.2 bt364.1 bt364.2).bind fun t366 => (if t366 = true then ((tnum_Or.f t343 t344 t340 t341).bind fun bt367 => ((tnum_Or.f t338 t339 t340 t341).bind fun bt369 => ((tnum_Within.f bt367.1 bt367.2 bt369.1 bt369.2).bind fun t371 => (if t371 = true then ((tnum_Xor.f t343 t344 t340 t341).bind fun bt372 => ((tnum_Xor.f t338 t339 t340 t341).bind fun bt374 => ((tnum_Within.f bt372.1 bt372.2 bt374.1 bt374.2).bind fun t376 => (if t376 = true then ((tnum_Lsh.f t343 t344 a4).bind fun bt377 => ((tnum_Lsh.f t338 t339 a4).bind fun bt379 => ((tnum_Within.f bt377.1 bt377.2 bt379.1 bt379.2).bind fun t381 => (if t381 = true then ((tnum_Arsh.f t343 t344 a4 64).bind fun bt382 => ((tnum_Arsh.f t338 t339 a4 64).bind fun bt384 => ((tnum_Within.f bt382.1 bt382.2 bt384.1 bt384.2).bind fun t386 => (if t386 = true then ((lockgatelaw03_known.f k).bind fun t387 => (some t387)) else (some false))))) else (some false))))) else (some false))))) else (some false))))) else (some false))))) else (some false))))) else (some false))))) else (some false))))) = some r := by rw [if_pos rfl] at H; exact H
    clear H
    have H := H1
    clear H1
    replace H := Option.bind_eq_some_iff.mp H
    obtain ⟨⟨t347, t348⟩, A120, H⟩ := H
    replace H : ((tnum_Add.f t338 t339 t340 t341).bind fun bt349 => ((tnum_Within.f t347 t348 bt349.1 bt349.2).bind fun t351 => (if t351 = true then ((tnum_Sub.f t343 t344 t340 t341).bind fun bt352 => ((tnum_Sub.f t338 t339 t340 t341).bind fun bt354 => ((tnum_Within.f bt352.1 bt352.2 bt354.1 bt354.2).bind fun t356 => (if t356 = true then ((tnum_Sub.f t340 t341 t343 t344).bind fun bt357 => ((tnum_Sub.f t340 t341 t338 t339).bind fun bt359 => ((tnum_Within.f bt357.1 bt357.2 bt359.1 bt359.2).bind fun t361 => (if t361 = true then ((tnum_And.f t343 t344 t340 t341).bind fun bt362 => ((tnum_And.f t338 t339 t340 t341).bind fun bt364 => ((tnum_Within.f bt362.1 bt362.2 bt364.1 bt364.2).bind fun t366 => (if t366 = true then ((tnum_Or.f t343 t344 t340 t341).bind fun bt367 => ((tnum_Or.f t338 t339 t340 t341).bind fun bt369 => ((tnum_Within.f bt367.1 bt367.2 bt369.1 bt369.2).bind fun t371 => (if t371 = true then ((tnum_Xor.f t343 t344 t340 t341).bind fun bt372 => ((tnum_Xor.f t338 t339 t340 t341).bind fun bt374 => ((tnum_Within.f bt372.1 bt372.2 bt374.1 bt374.2).bind fun t376 => (if t376 = true then ((tnum_Lsh.f t343 t344 a4).bind fun bt377 => ((tnum_Lsh.f t338 t339 a4).bind fun bt379 => ((tnum_Within.f bt377.1 bt377.2 bt379.1 bt379.2).bind fun t381 => (if t381 = true then ((tnum_Arsh.f t343 t344 a4 64).bind fun bt382 => ((tnum_Arsh.f t338 t339 a4 64).bind fun bt384 => ((tnum_Within.f bt382.1 bt382.2 bt384.1 bt384.2).bind fun t386 => (if t386 = true then ((lockgatelaw03_known.f k).bind fun t387 => (some t387)) else (some false))))) else (some false))))) else (some false))))) else (some false))))) else (some false))))) else (some false))))) else (some false))))) else (some false)))) = some r := H
    have A12 := Aside0.mk A120
    clear A120
    replace H := Option.bind_eq_some_iff.mp H
    obtain ⟨⟨t349, t350⟩, A130, H⟩ := H
    replace H : ((tnum_Within.f t347 t348 t349 t350).bind fun t351 => (if t351 = true then ((tnum_Sub.f t343 t344 t340 t341).bind fun bt352 => ((tnum_Sub.f t338 t339 t340 t341).bind fun bt354 => ((tnum_Within.f bt352.1 bt352.2 bt354.1 bt354.2).bind fun t356 => (if t356 = true then ((tnum_Sub.f t340 t341 t343 t344).bind fun bt357 => ((tnum_Sub.f t340 t341 t338 t339).bind fun bt359 => ((tnum_Within.f bt357.1 bt357.2 bt359.1 bt359.2).bind fun t361 => (if t361 = true then ((tnum_And.f t343 t344 t340 t341).bind fun bt362 => ((tnum_And.f t338 t339 t340 t341).bind fun bt364 => ((tnum_Within.f bt362.1 bt362.2 bt364.1 bt364.2).bind fun t366 => (if t366 = true then ((tnum_Or.f t343 t344 t340 t341).bind fun bt367 => ((tnum_Or.f t338 t339 t340 t341).bind fun bt369 => ((tnum_Within.f bt367.1 bt367.2 bt369.1 bt369.2).bind fun t371 => (if t371 = true then ((tnum_Xor.f t343 t344 t340 t341).bind fun bt372 => ((tnum_Xor.f t338 t339 t340 t341).bind fun bt374 => ((tnum_Within.f bt372.1 bt372.2 bt374.1 bt374.2).bind fun t376 => (if t376 = true then ((tnum_Lsh.f t343 t344 a4).bind fun bt377 => ((tnum_Lsh.f t338 t339 a4).bind fun bt379 => ((tnum_Within.f bt377.1 bt377.2 bt379.1 bt379.2).bind fun t381 => (if t381 = true then ((tnum_Arsh.f t343 t344 a4 64).bind fun bt382 => ((tnum_Arsh.f t338 t339 a4 64).bind fun bt384 => ((tnum_Within.f bt382.1 bt382.2 bt384.1 bt384.2).bind fun t386 => (if t386 = true then ((lockgatelaw03_known.f k).bind fun t387 => (some t387)) else (some false))))) else (some false))))) else (some false))))) else (some false))))) else (some false))))) else (some false))))) else (some false))))) else (some false))) = some r := H
    have A13 := Aside0.mk A130
    clear A130
    replace H := Option.bind_eq_some_iff.mp H
    obtain ⟨t351, A140, H⟩ := H
    replace H : (if t351 = true then ((tnum_Sub.f t343 t344 t340 t341).bind fun bt352 => ((tnum_Sub.f t338 t339 t340 t341).bind fun bt354 => ((tnum_Within.f bt352.1 bt352.2 bt354.1 bt354.2).bind fun t356 => (if t356 = true then ((tnum_Sub.f t340 t341 t343 t344).bind fun bt357 => ((tnum_Sub.f t340 t341 t338 t339).bind fun bt359 => ((tnum_Within.f bt357.1 bt357.2 bt359.1 bt359.2).bind fun t361 => (if t361 = true then ((tnum_And.f t343 t344 t340 t341).bind fun bt362 => ((tnum_And.f t338 t339 t340 t341).bind fun bt364 => ((tnum_Within.f bt362.1 bt362.2 bt364.1 bt364.2).bind fun t366 => (if t366 = true then ((tnum_Or.f t343 t344 t340 t341).bind fun bt367 => ((tnum_Or.f t338 t339 t340 t341).bind fun bt369 => ((tnum_Within.f bt367.1 bt367.2 bt369.1 bt369.2).bind fun t371 => (if t371 = true then ((tnum_Xor.f t343 t344 t340 t341).bind fun bt372 => ((tnum_Xor.f t338 t339 t340 t341).bind fun bt374 => ((tnum_Within.f bt372.1 bt372.2 bt374.1 bt374.2).bind fun t376 => (if t376 = true then ((tnum_Lsh.f t343 t344 a4).bind fun bt377 => ((tnum_Lsh.f t338 t339 a4).bind fun bt379 => ((tnum_Within.f bt377.1 bt377.2 bt379.1 bt379.2).bind fun t381 => (if t381 = true then ((tnum_Arsh.f t343 t344 a4 64).bind fun bt382 => ((tnum_Arsh.f t338 t339 a4 64).bind fun bt384 => ((tnum_Within.f bt382.1 bt382.2 bt384.1 bt384.2).bind fun t386 => (if t386 = true then ((lockgatelaw03_known.f k).bind fun t387 => (some t387)) else (some false))))) else (some false))))) else (some false))))) else (some false))))) else (some false))))) else (some false))))) else (some false))))) else (some false)) = some r := H
    have A14 := Aside0.mk A140
    clear A140
    by_cases c15 : t351 = true
    · subst c15
      have H1 : ((tnum_Sub.f t343 t344 t340 t341).bind fun bt352 => ((tnum_Sub.f t338 t339 t340 t341).bind fun bt354 => ((tnum_Within.f bt352.1 bt352.2 bt354.1 bt354.2).bind fun t356 => (if t356 = true then ((tnum_Sub.f t340 t341 t343 t344).bind fun bt357 => ((tnum_Sub.f t340 t341 t338 t339).bind fun bt359 => ((tnum_Within.f bt357.1 bt357.2 bt359.1 bt359.2).bind fun t361 => (if t361 = true then ((tnum_And.f t343 t344 t340 t341).bind fun bt362 => ((tnum_And.f t338 t339 t340 t341).bind fun bt364 => ((tnum_Within.f bt362.1 bt362.2 bt364.1 bt364.2).bind fun t366 => (if t366 = true then ((tnum_Or.f t343 t344 t340 t341).bind fun bt367 => ((tnum_Or.f t338 t339 t340 t341).bind fun bt369 => ((tnum_Within.f bt367.1 bt367.2 bt369.1 bt369.2).bind fun t371 => (if t371 = true then ((tnum_Xor.f t343 t344 t340 t341).bind fun bt372 => ((tnum_Xor.f t338 t339 t340 t341).bind fun bt374 => ((tnum_Within.f bt372.1 bt372.2 bt374.1 bt374.2).bind fun t376 => (if t376 = true then ((tnum_Lsh.f t343 t344 a4).bind fun bt377 => ((tnum_Lsh.f t338 t339 a4).bind fun bt379 => ((tnum_Within.f bt377.1 bt377.2 bt379.1 bt379.2).bind fun t381 => (if t381 = true then ((tnum_Arsh.f t343 t344 a4 64).bind fun bt382 => ((tnum_Arsh.f t338 t339 a4 64).bind fun bt384 => ((tnum_Within.f bt382.1 bt382.2 bt384.1 bt384.2).bind fun t386 => (if t386 = true then ((lockgatelaw03_known.f k).bind fun t387 => (some t387)) else (some false))))) else (some false))))) else (some false))))) else (some false))))) else (some false))))) else (some false))))) else (some false))))) = some r := by rw [if_pos rfl] at H; exact H
      clear H
      have H := H1
      clear H1
      replace H := Option.bind_eq_some_iff.mp H
      obtain ⟨⟨t352, t353⟩, A160, H⟩ := H
      replace H : ((tnum_Sub.f t338 t339 t340 t341).bind fun bt354 => ((tnum_Within.f t352 t353 bt354.1 bt354.2).bind fun t356 => (if t356 = true then ((tnum_Sub.f t340 t341 t343 t344).bind fun bt357 => ((tnum_Sub.f t340 t341 t338 t339).bind fun bt359 => ((tnum_Within.f bt357.1 bt357.2 bt359.1 bt359.2).bind fun t361 => (if t361 = true then ((tnum_And.f t343 t344 t340 t341).bind fun bt362 => ((tnum_And.f t338 t339 t340 t341).bind fun bt364 => ((tnum_Within.f bt362.1 bt362.2 bt364.1 bt364.2).bind fun t366 => (if t366 = true then ((tnum_Or.f t343 t344 t340 t341).bind fun bt367 => ((tnum_Or.f t338 t339 t340 t341).bind fun bt369 => ((tnum_Within.f bt367.1 bt367.2 bt369.1 bt369.2).bind fun t371 => (if t371 = true then ((tnum_Xor.f t343 t344 t340 t341).bind fun bt372 => ((tnum_Xor.f t338 t339 t340 t341).bind fun bt374 => ((tnum_Within.f bt372.1 bt372.2 bt374.1 bt374.2).bind fun t376 => (if t376 = true then ((tnum_Lsh.f t343 t344 a4).bind fun bt377 => ((tnum_Lsh.f t338 t339 a4).bind fun bt379 => ((tnum_Within.f bt377.1 bt377.2 bt379.1 bt379.2).bind fun t381 => (if t381 = true then ((tnum_Arsh.f t343 t344 a4 64).bind fun bt382 => ((tnum_Arsh.f t338 t339 a4 64).bind fun bt384 => ((tnum_Within.f bt382.1 bt382.2 bt384.1 bt384.2).bind fun t386 => (if t386 = true then ((lockgatelaw03_known.f k).bind fun t387 => (some t387)) else (some false))))) else (some false))))) else (some false))))) else (some false))))) else (some false))))) else (some false))))) else (some false)))) = some r := H
      have A16 := Aside0.mk A160
      clear A160
      replace H := Option.bind_eq_some_iff.mp H
      obtain ⟨⟨t354, t355⟩, A170, H⟩ := H
      replace H : ((tnum_Within.f t352 t353 t354 t355).bind fun t356 => (if t356 = true then ((tnum_Sub.f t340 t341 t343 t344).bind fun bt357 => ((tnum_Sub.f t340 t341 t338 t339).bind fun bt359 => ((tnum_Within.f bt357.1 bt357.2 bt359.1 bt359.2).bind fun t361 => (if t361 = true then ((tnum_And.f t343 t344 t340 t341).bind fun bt362 => ((tnum_And.f t338 t339 t340 t341).bind fun bt364 => ((tnum_Within.f bt362.1 bt362.2 bt364.1 bt364.2).bind fun t366 => (if t366 = true then ((tnum_Or.f t343 t344 t340 t341).bind fun bt367 => ((tnum_Or.f t338 t339 t340 t341).bind fun bt369 => ((tnum_Within.f bt367.1 bt367.2 bt369.1 bt369.2).bind fun t371 => (if t371 = true then ((tnum_Xor.f t343 t344 t340 t341).bind fun bt372 => ((tnum_Xor.f t338 t339 t340 t341).bind fun bt374 => ((tnum_Within.f bt372.1 bt372.2 bt374.1 bt374.2).bind fun t376 => (if t376 = true then ((tnum_Lsh.f t343 t344 a4).bind fun bt377 => ((tnum_Lsh.f t338 t339 a4).bind fun bt379 => ((tnum_Within.f bt377.1 bt377.2 bt379.1 bt379.2).bind fun t381 => (if t381 = true then ((tnum_Arsh.f t343 t344 a4 64).bind fun bt382 => ((tnum_Arsh.f t338 t339 a4 64).bind fun bt384 => ((tnum_Within.f bt382.1 bt382.2 bt384.1 bt384.2).bind fun t386 => (if t386 = true then ((lockgatelaw03_known.f k).bind fun t387 => (some t387)) else (some false))))) else (some false))))) else (some false))))) else (some false))))) else (some false))))) else (some false))))) else (some false))) = some r := H
      have A17 := Aside0.mk A170
      clear A170
      replace H := Option.bind_eq_some_iff.mp H
      obtain ⟨t356, A180, H⟩ := H
      replace H : (if t356 = true then ((tnum_Sub.f t340 t341 t343 t344).bind fun bt357 => ((tnum_Sub.f t340 t341 t338 t339).bind fun bt359 => ((tnum_Within.f bt357.1 bt357.2 bt359.1 bt359.2).bind fun t361 => (if t361 = true then ((tnum_And.f t343 t344 t340 t341).bind fun bt362 => ((tnum_And.f t338 t339 t340 t341).bind fun bt364 => ((tnum_Within.f bt362.1 bt362.2 bt364.1 bt364.2).bind fun t366 => (if t366 = true then ((tnum_Or.f t343 t344 t340 t341).bind fun bt367 => ((tnum_Or.f t338 t339 t340 t341).bind fun bt369 => ((tnum_Within.f bt367.1 bt367.2 bt369.1 bt369.2).bind fun t371 => (if t371 = true then ((tnum_Xor.f t343 t344 t340 t341).bind fun bt372 => ((tnum_Xor.f t338 t339 t340 t341).bind fun bt374 => ((tnum_Within.f bt372.1 bt372.2 bt374.1 bt374.2).bind fun t376 => (if t376 = true then ((tnum_Lsh.f t343 t344 a4).bind fun bt377 => ((tnum_Lsh.f t338 t339 a4).bind fun bt379 => ((tnum_Within.f bt377.1 bt377.2 bt379.1 bt379.2).bind fun t381 => (if t381 = true then ((tnum_Arsh.f t343 t344 a4 64).bind fun bt382 => ((tnum_Arsh.f t338 t339 a4 64).bind fun bt384 => ((tnum_Within.f bt382.1 bt382.2 bt384.1 bt384.2).bind fun t386 => (if t386 = true then ((lockgatelaw03_known.f k).bind fun t387 => (some t387)) else (some false))))) else (some false))))) else (some false))))) else (some false))))) else (some false))))) else (some false))))) else (some false)) = some r := H
      have A18 := Aside0.mk A180
      clear A180
      by_cases c19 : t356 = true
      · subst c19
        have H1 : ((tnum_Sub.f t340 t341 t343 t344).bind fun bt357 => ((tnum_Sub.f t340 t341 t338 t339).bind fun bt359 => ((tnum_Within.f bt357.1 bt357.2 bt359.1 bt359.2).bind fun t361 => (if t361 = true then ((tnum_And.f t343 t344 t340 t341).bind fun bt362 => ((tnum_And.f t338 t339 t340 t341).bind fun bt364 => ((tnum_Within.f bt362.1 bt362.2 bt364.1 bt364.2).bind fun t366 => (if t366 = true then ((tnum_Or.f t343 t344 t340 t341).bind fun bt367 => ((tnum_Or.f t338 t339 t340 t341).bind fun bt369 => ((tnum_Within.f bt367.1 bt367.2 bt369.1 bt369.2).bind fun t371 => (if t371 = true then ((tnum_Xor.f t343 t344 t340 t341).bind fun bt372 => ((tnum_Xor.f t338 t339 t340 t341).bind fun bt374 => ((tnum_Within.f bt372.1 bt372.2 bt374.1 bt374.2).bind fun t376 => (if t376 = true then ((tnum_Lsh.f t343 t344 a4).bind fun bt377 => ((tnum_Lsh.f t338 t339 a4).bind fun bt379 => ((tnum_Within.f bt377.1 bt377.2 bt379.1 bt379.2).bind fun t381 => (if t381 = true then ((tnum_Arsh.f t343 t344 a4 64).bind fun bt382 => ((tnum_Arsh.f t338 t339 a4 64).bind fun bt384 => ((tnum_Within.f bt382.1 bt382.2 bt384.1 bt384.2).bind fun t386 => (if t386 = true then ((lockgatelaw03_known.f k).bind fun t387 => (some t387)) else (some false))))) else (some false))))) else (some false))))) else (some false))))) else (some false))))) else (some false))))) = some r := by rw [if_pos rfl] at H; exact H
        clear H
        have H := H1
        clear H1
        replace H := Option.bind_eq_some_iff.mp H
        obtain ⟨⟨t357, t358⟩, A200, H⟩ := H
        replace H : ((tnum_Sub.f t340 t341 t338 t339).bind fun bt359 => ((tnum_Within.f t357 t358 bt359.1 bt359.2).bind fun t361 => (if t361 = true then ((tnum_And.f t343 t344 t340 t341).bind fun bt362 => ((tnum_And.f t338 t339 t340 t341).bind fun bt364 => ((tnum_Within.f bt362.1 bt362.2 bt364.1 bt364.2).bind fun t366 => (if t366 = true then ((tnum_Or.f t343 t344 t340 t341).bind fun bt367 => ((tnum_Or.f t338 t339 t340 t341).bind fun bt369 => ((tnum_Within.f bt367.1 bt367.2 bt369.1 bt369.2).bind fun t371 => (if t371 = true then ((tnum_Xor.f t343 t344 t340 t341).bind fun bt372 => ((tnum_Xor.f t338 t339 t340 t341).bind fun bt374 => ((tnum_Within.f bt372.1 bt372.2 bt374.1 bt374.2).bind fun t376 => (if t376 = true then ((tnum_Lsh.f t343 t344 a4).bind fun bt377 => ((tnum_Lsh.f t338 t339 a4).bind fun bt379 => ((tnum_Within.f bt377.1 bt377.2 bt379.1 bt379.2).bind fun t381 => (if t381 = true then ((tnum_Arsh.f t343 t344 a4 64).bind fun bt382 => ((tnum_Arsh.f t338 t339 a4 64).bind fun bt384 => ((tnum_Within.f bt382.1 bt382.2 bt384.1 bt384.2).bind fun t386 => (if t386 = true then ((lockgatelaw03_known.f k).bind fun t387 => (some t387)) else (some false))))) else (some false))))) else (some false))))) else (some false))))) else (some false))))) else (some false)))) = some r := H
        have A20 := Aside0.mk A200
        clear A200
        replace H := Option.bind_eq_some_iff.mp H
        obtain ⟨⟨t359, t360⟩, A210, H⟩ := H
        replace H : ((tnum_Within.f t357 t358 t359 t360).bind fun t361 => (if t361 = true then ((tnum_And.f t343 t344 t340 t341).bind fun bt362 => ((tnum_And.f t338 t339 t340 t341).bind fun bt364 => ((tnum_Within.f bt362.1 bt362.2 bt364.1 bt364.2).bind fun t366 => (if t366 = true then ((tnum_Or.f t343 t344 t340 t341).bind fun bt367 => ((tnum_Or.f t338 t339 t340 t341).bind fun bt369 => ((tnum_Within.f bt367.1 bt367.2 bt369.1 bt369.2).bind fun t371 => (if t371 = true then ((tnum_Xor.f t343 t344 t340 t341).bind fun bt372 => ((tnum_Xor.f t338 t339 t340 t341).bind fun bt374 => ((tnum_Within.f bt372.1 bt372.2 bt374.1 bt374.2).bind fun t376 => (if t376 = true then ((tnum_Lsh.f t343 t344 a4).bind fun bt377 => ((tnum_Lsh.f t338 t339 a4).bind fun bt379 => ((tnum_Within.f bt377.1 bt377.2 bt379.1 bt379.2).bind fun t381 => (if t381 = true then ((tnum_Arsh.f t343 t344 a4 64).bind fun bt382 => ((tnum_Arsh.f t338 t339 a4 64).bind fun bt384 => ((tnum_Within.f bt382.1 bt382.2 bt384.1 bt384.2).bind fun t386 => (if t386 = true then ((lockgatelaw03_known.f k).bind fun t387 => (some t387)) else (some false))))) else (some false))))) else (some false))))) else (some false))))) else (some false))))) else (some false))) = some r := H
        have A21 := Aside0.mk A210
        clear A210
        replace H := Option.bind_eq_some_iff.mp H
        obtain ⟨t361, A220, H⟩ := H
        replace H : (if t361 = true then ((tnum_And.f t343 t344 t340 t341).bind fun bt362 => ((tnum_And.f t338 t339 t340 t341).bind fun bt364 => ((tnum_Within.f bt362.1 bt362.2 bt364.1 bt364.2).bind fun t366 => (if t366 = true then ((tnum_Or.f t343 t344 t340 t341).bind fun bt367 => ((tnum_Or.f t338 t339 t340 t341).bind fun bt369 => ((tnum_Within.f bt367.1 bt367.2 bt369.1 bt369.2).bind fun t371 => (if t371 = true then ((tnum_Xor.f t343 t344 t340 t341).bind fun bt372 => ((tnum_Xor.f t338 t339 t340 t341).bind fun bt374 => ((tnum_Within.f bt372.1 bt372.2 bt374.1 bt374.2).bind fun t376 => (if t376 = true then ((tnum_Lsh.f t343 t344 a4).bind fun bt377 => ((tnum_Lsh.f t338 t339 a4).bind fun bt379 => ((tnum_Within.f bt377.1 bt377.2 bt379.1 bt379.2).bind fun t381 => (if t381 = true then ((tnum_Arsh.f t343 t344 a4 64).bind fun bt382 => ((tnum_Arsh.f t338 t339 a4 64).bind fun bt384 => ((tnum_Within.f bt382.1 bt382.2 bt384.1 bt384.2).bind fun t386 => (if t386 = true then ((lockgatelaw03_known.f k).bind fun t387 => (some t387)) else (some false))))) else (some false))))) else (some false))))) else (some false))))) else (some false))))) else (some false)) = some r := H
        have A22 := Aside0.mk A220
        clear A220
        by_cases c23 : t361 = true
        · subst c23
          have H1 : ((tnum_And.f t343 t344 t340 t341).bind fun bt362 => ((tnum_And.f t338 t339 t340 t341).bind fun bt364 => ((tnum_Within.f bt362.1 bt362.2 bt364.1 bt364.2).bind fun t366 => (if t366 = true then ((tnum_Or.f t343 t344 t340 t341).bind fun bt367 => ((tnum_Or.f t338 t339 t340 t341).bind fun bt369 => ((tnum_Within.f bt367.1 bt367.2 bt369.1 bt369.2).bind fun t371 => (if t371 = true then ((tnum_Xor.f t343 t344 t340 t341).bind fun bt372 => ((tnum_Xor.f t338 t339 t340 t341).bind fun bt374 => ((tnum_Within.f bt372.1 bt372.2 bt374.1 bt374.2).bind fun t376 => (if t376 = true then ((tnum_Lsh.f t343 t344 a4).bind fun bt377 => ((tnum_Lsh.f t338 t339 a4).bind fun bt379 => ((tnum_Within.f bt377.1 bt377.2 bt379.1 bt379.2).bind fun t381 => (if t381 = true then ((tnum_Arsh.f t343 t344 a4 64).bind fun bt382 => ((tnum_Arsh.f t338 t339 a4 64).bind fun bt384 => ((tnum_Within.f bt382.1 bt382.2 bt384.1 bt384.2).bind fun t386 => (if t386 = true then ((lockgatelaw03_known.f k).bind fun t387 => (some t387)) else (some false))))) else (some false))))) else (some false))))) else (some false))))) else (some false))))) = some r := by rw [if_pos rfl] at H; exact H
          clear H
          have H := H1
          clear H1
          replace H := Option.bind_eq_some_iff.mp H
          obtain ⟨⟨t362, t363⟩, A240, H⟩ := H
          replace H : ((tnum_And.f t338 t339 t340 t341).bind fun bt364 => ((tnum_Within.f t362 t363 bt364.1 bt364.2).bind fun t366 => (if t366 = true then ((tnum_Or.f t343 t344 t340 t341).bind fun bt367 => ((tnum_Or.f t338 t339 t340 t341).bind fun bt369 => ((tnum_Within.f bt367.1 bt367.2 bt369.1 bt369.2).bind fun t371 => (if t371 = true then ((tnum_Xor.f t343 t344 t340 t341).bind fun bt372 => ((tnum_Xor.f t338 t339 t340 t341).bind fun bt374 => ((tnum_Within.f bt372.1 bt372.2 bt374.1 bt374.2).bind fun t376 => (if t376 = true then ((tnum_Lsh.f t343 t344 a4).bind fun bt377 => ((tnum_Lsh.f t338 t339 a4).bind fun bt379 => ((tnum_Within.f bt377.1 bt377.2 bt379.1 bt379.2).bind fun t381 => (if t381 = true then ((tnum_Arsh.f t343 t344 a4 64).bind fun bt382 => ((tnum_Arsh.f t338 t339 a4 64).bind fun bt384 => ((tnum_Within.f bt382.1 bt382.2 bt384.1 bt384.2).bind fun t386 => (if t386 = true then ((lockgatelaw03_known.f k).bind fun t387 => (some t387)) else (some false))))) else (some false))))) else (some false))))) else (some false))))) else (some false)))) = some r := H
          have A24 := Aside0.mk A240
          clear A240
          replace H := Option.bind_eq_some_iff.mp H
          obtain ⟨⟨t364, t365⟩, A250, H⟩ := H
          replace H : ((tnum_Within.f t362 t363 t364 t365).bind fun t366 => (if t366 = true then ((tnum_Or.f t343 t344 t340 t341).bind fun bt367 => ((tnum_Or.f t338 t339 t340 t341).bind fun bt369 => ((tnum_Within.f bt367.1 bt367.2 bt369.1 bt369.2).bind fun t371 => (if t371 = true then ((tnum_Xor.f t343 t344 t340 t341).bind fun bt372 => ((tnum_Xor.f t338 t339 t340 t341).bind fun bt374 => ((tnum_Within.f bt372.1 bt372.2 bt374.1 bt374.2).bind fun t376 => (if t376 = true then ((tnum_Lsh.f t343 t344 a4).bind fun bt377 => ((tnum_Lsh.f t338 t339 a4).bind fun bt379 => ((tnum_Within.f bt377.1 bt377.2 bt379.1 bt379.2).bind fun t381 => (if t381 = true then ((tnum_Arsh.f t343 t344 a4 64).bind fun bt382 => ((tnum_Arsh.f t338 t339 a4 64).bind fun bt384 => ((tnum_Within.f bt382.1 bt382.2 bt384.1 bt384.2).bind fun t386 => (if t386 = true then ((lockgatelaw03_known.f k).bind fun t387 => (some t387)) else (some false))))) else (some false))))) else (some false))))) else (some false))))) else (some false))) = some r := H
          have A25 := Aside0.mk A250
          clear A250
          replace H := Option.bind_eq_some_iff.mp H
          obtain ⟨t366, A260, H⟩ := H
          replace H : (if t366 = true then ((tnum_Or.f t343 t344 t340 t341).bind fun bt367 => ((tnum_Or.f t338 t339 t340 t341).bind fun bt369 => ((tnum_Within.f bt367.1 bt367.2 bt369.1 bt369.2).bind fun t371 => (if t371 = true then ((tnum_Xor.f t343 t344 t340 t341).bind fun bt372 => ((tnum_Xor.f t338 t339 t340 t341).bind fun bt374 => ((tnum_Within.f bt372.1 bt372.2 bt374.1 bt374.2).bind fun t376 => (if t376 = true then ((tnum_Lsh.f t343 t344 a4).bind fun bt377 => ((tnum_Lsh.f t338 t339 a4).bind fun bt379 => ((tnum_Within.f bt377.1 bt377.2 bt379.1 bt379.2).bind fun t381 => (if t381 = true then ((tnum_Arsh.f t343 t344 a4 64).bind fun bt382 => ((tnum_Arsh.f t338 t339 a4 64).bind fun bt384 => ((tnum_Within.f bt382.1 bt382.2 bt384.1 bt384.2).bind fun t386 => (if t386 = true then ((lockgatelaw03_known.f k).bind fun t387 => (some t387)) else (some false))))) else (some false))))) else (some false))))) else (some false))))) else (some false)) = some r := H
          have A26 := Aside0.mk A260
          clear A260
          by_cases c27 : t366 = true
          · subst c27
            have H1 : ((tnum_Or.f t343 t344 t340 t341).bind fun bt367 => ((tnum_Or.f t338 t339 t340 t341).bind fun bt369 => ((tnum_Within.f bt367.1 bt367.2 bt369.1 bt369.2).bind fun t371 => (if t371 = true then ((tnum_Xor.f t343 t344 t340 t341).bind fun bt372 => ((tnum_Xor.f t338 t339 t340 t341).bind fun bt374 => ((tnum_Within.f bt372.1 bt372.2 bt374.1 bt374.2).bind fun t376 => (if t376 = true then ((tnum_Lsh.f t343 t344 a4).bind fun bt377 => ((tnum_Lsh.f t338 t339 a4).bind fun bt379 => ((tnum_Within.f bt377.1 bt377.2 bt379.1 bt379.2).bind fun t381 => (if t381 = true then ((tnum_Arsh.f t343 t344 a4 64).bind fun bt382 => ((tnum_Arsh.f t338 t339 a4 64).bind fun bt384 => ((tnum_Within.f bt382.1 bt382.2 bt384.1 bt384.2).bind fun t386 => (if t386 = true then ((lockgatelaw03_known.f k).bind fun t387 => (some t387)) else (some false))))) else (some false))))) else (some false))))) else (some false))))) = some r := by rw [if_pos rfl] at H; exact H
            clear H
            have H := H1
            clear H1
            replace H := Option.bind_eq_some_iff.mp H
            obtain ⟨⟨t367, t368⟩, A280, H⟩ := H
            replace H : ((tnum_Or.f t338 t339 t340 t341).bind fun bt369 => ((tnum_Within.f t367 t368 bt369.1 bt369.2).bind fun t371 => (if t371 = true then ((tnum_Xor.f t343 t344 t340 t341).bind fun bt372 => ((tnum_Xor.f t338 t339 t340 t341).bind fun bt374 => ((tnum_Within.f bt372.1 bt372.2 bt374.1 bt374.2).bind fun t376 => (if t376 = true then ((tnum_Lsh.f t343 t344 a4).bind fun bt377 => ((tnum_Lsh.f t338 t339 a4).bind fun bt379 => ((tnum_Within.f bt377.1 bt377.2 bt379.1 bt379.2).bind fun t381 => (if t381 = true then ((tnum_Arsh.f t343 t344 a4 64).bind fun bt382 => ((tnum_Arsh.f t338 t339 a4 64).bind fun bt384 => ((tnum_Within.f bt382.1 bt382.2 bt384.1 bt384.2).bind fun t386 => (if t386 = true then ((lockgatelaw03_known.f k).bind fun t387 => (some t387)) else (some false))))) else (some false))))) else (some false))))) else (some false)))) = some r := H
            have A28 := Aside0.mk A280
            clear A280
            replace H := Option.bind_eq_some_iff.mp H
            obtain ⟨⟨t369, t370⟩, A290, H⟩ := H
            replace H : ((tnum_Within.f t367 t368 t369 t370).bind fun t371 => (if t371 = true then ((tnum_Xor.f t343 t344 t340 t341).bind fun bt372 => ((tnum_Xor.f t338 t339 t340 t341).bind fun bt374 => ((tnum_Within.f bt372.1 bt372.2 bt374.1 bt374.2).bind fun t376 => (if t376 = true then ((tnum_Lsh.f t343 t344 a4).bind fun bt377 => ((tnum_Lsh.f t338 t339 a4).bind fun bt379 => ((tnum_Within.f bt377.1 bt377.2 bt379.1 bt379.2).bind fun t381 => (if t381 = true then ((tnum_Arsh.f t343 t344 a4 64).bind fun bt382 => ((tnum_Arsh.f t338 t339 a4 64).bind fun bt384 => ((tnum_Within.f bt382.1 bt382.2 bt384.1 bt384.2).bind fun t386 => (if t386 = true then ((lockgatelaw03_known.f k).bind fun t387 => (some t387)) else (some false))))) else (some false))))) else (some false))))) else (some false))) = some r := H
            have A29 := Aside0.mk A290
            clear A290
            replace H := Option.bind_eq_some_iff.mp H
            obtain ⟨t371, A300, H⟩ := H
            replace H : (if t371 = true then ((tnum_Xor.f t343 t344 t340 t341).bind fun bt372 => ((tnum_Xor.f t338 t339 t340 t341).bind fun bt374 => ((tnum_Within.f bt372.1 bt372.2 bt374.1 bt374.2).bind fun t376 => (if t376 = true then ((tnum_Lsh.f t343 t344 a4).bind fun bt377 => ((tnum_Lsh.f t338 t339 a4).bind fun bt379 => ((tnum_Within.f bt377.1 bt377.2 bt379.1 bt379.2).bind fun t381 => (if t381 = true then ((tnum_Arsh.f t343 t344 a4 64).bind fun bt382 => ((tnum_Arsh.f t338 t339 a4 64).bind fun bt384 => ((tnum_Within.f bt382.1 bt382.2 bt384.1 bt384.2).bind fun t386 => (if t386 = true then ((lockgatelaw03_known.f k).bind fun t387 => (some t387)) else (some false))))) else (some false))))) else (some false))))) else (some false)) = some r := H
            have A30 := Aside0.mk A300
            clear A300
            by_cases c31 : t371 = true
            · subst c31
              have H1 : ((tnum_Xor.f t343 t344 t340 t341).bind fun bt372 => ((tnum_Xor.f t338 t339 t340 t341).bind fun bt374 => ((tnum_Within.f bt372.1 bt372.2 bt374.1 bt374.2).bind fun t376 => (if t376 = true then ((tnum_Lsh.f t343 t344 a4).bind fun bt377 => ((tnum_Lsh.f t338 t339 a4).bind fun bt379 => ((tnum_Within.f bt377.1 bt377.2 bt379.1 bt379.2).bind fun t381 => (if t381 = true then ((tnum_Arsh.f t343 t344 a4 64).bind fun bt382 => ((tnum_Arsh.f t338 t339 a4 64).bind fun bt384 => ((tnum_Within.f bt382.1 bt382.2 bt384.1 bt384.2).bind fun t386 => (if t386 = true then ((lockgatelaw03_known.f k).bind fun t387 => (some t387)) else (some false))))) else (some false))))) else (some false))))) = some r := by rw [if_pos rfl] at H; exact H
              clear H
              have H := H1
              clear H1
              replace H := Option.bind_eq_some_iff.mp H
              obtain ⟨⟨t372, t373⟩, A320, H⟩ := H
              replace H : ((tnum_Xor.f t338 t339 t340 t341).bind fun bt374 => ((tnum_Within.f t372 t373 bt374.1 bt374.2).bind fun t376 => (if t376 = true then ((tnum_Lsh.f t343 t344 a4).bind fun bt377 => ((tnum_Lsh.f t338 t339 a4).bind fun bt379 => ((tnum_Within.f bt377.1 bt377.2 bt379.1 bt379.2).bind fun t381 => (if t381 = true then ((tnum_Arsh.f t343 t344 a4 64).bind fun bt382 => ((tnum_Arsh.f t338 t339 a4 64).bind fun bt384 => ((tnum_Within.f bt382.1 bt382.2 bt384.1 bt384.2).bind fun t386 => (if t386 = true then ((lockgatelaw03_known.f k).bind fun t387 => (some t387)) else (some false))))) else (some false))))) else (some false)))) = some r := H
              have A32 := Aside0.mk A320
              clear A320
              replace H := Option.bind_eq_some_iff.mp H
              obtain ⟨⟨t374, t375⟩, A330, H⟩ := H
              replace H : ((tnum_Within.f t372 t373 t374 t375).bind fun t376 => (if t376 = true then ((tnum_Lsh.f t343 t344 a4).bind fun bt377 => ((tnum_Lsh.f t338 t339 a4).bind fun bt379 => ((tnum_Within.f bt377.1 bt377.2 bt379.1 bt379.2).bind fun t381 => (if t381 = true then ((tnum_Arsh.f t343 t344 a4 64).bind fun bt382 => ((tnum_Arsh.f t338 t339 a4 64).bind fun bt384 => ((tnum_Within.f bt382.1 bt382.2 bt384.1 bt384.2).bind fun t386 => (if t386 = true then ((lockgatelaw03_known.f k).bind fun t387 => (some t387)) else (some false))))) else (some false))))) else (some false))) = some r := H
              have A33 := Aside0.mk A330
              clear A330
              replace H := Option.bind_eq_some_iff.mp H
              obtain ⟨t376, A340, H⟩ := H
              replace H : (if t376 = true then ((tnum_Lsh.f t343 t344 a4).bind fun bt377 => ((tnum_Lsh.f t338 t339 a4).bind fun bt379 => ((tnum_Within.f bt377.1 bt377.2 bt379.1 bt379.2).bind fun t381 => (if t381 = true then ((tnum_Arsh.f t343 t344 a4 64).bind fun bt382 => ((tnum_Arsh.f t338 t339 a4 64).bind fun bt384 => ((tnum_Within.f bt382.1 bt382.2 bt384.1 bt384.2).bind fun t386 => (if t386 = true then ((lockgatelaw03_known.f k).bind fun t387 => (some t387)) else (some false))))) else (some false))))) else (some false)) = some r := H
              have A34 := Aside0.mk A340
              clear A340
              by_cases c35 : t376 = true
              · subst c35
                have H1 : ((tnum_Lsh.f t343 t344 a4).bind fun bt377 => ((tnum_Lsh.f t338 t339 a4).bind fun bt379 => ((tnum_Within.f bt377.1 bt377.2 bt379.1 bt379.2).bind fun t381 => (if t381 = true then ((tnum_Arsh.f t343 t344 a4 64).bind fun bt382 => ((tnum_Arsh.f t338 t339 a4 64).bind fun bt384 => ((tnum_Within.f bt382.1 bt382.2 bt384.1 bt384.2).bind fun t386 => (if t386 = true then ((lockgatelaw03_known.f k).bind fun t387 => (some t387)) else (some false))))) else (some false))))) = some r := by rw [if_pos rfl] at H; exact H
                clear H
                have H := H1
                clear H1
                replace H := Option.bind_eq_some_iff.mp H
                obtain ⟨⟨t377, t378⟩, A360, H⟩ := H
                replace H : ((tnum_Lsh.f t338 t339 a4).bind fun bt379 => ((tnum_Within.f t377 t378 bt379.1 bt379.2).bind fun t381 => (if t381 = true then ((tnum_Arsh.f t343 t344 a4 64).bind fun bt382 => ((tnum_Arsh.f t338 t339 a4 64).bind fun bt384 => ((tnum_Within.f bt382.1 bt382.2 bt384.1 bt384.2).bind fun t386 => (if t386 = true then ((lockgatelaw03_known.f k).bind fun t387 => (some t387)) else (some false))))) else (some false)))) = some r := H
                have A36 := Aside0.mk A360
                clear A360
                replace H := Option.bind_eq_some_iff.mp H
                obtain ⟨⟨t379, t380⟩, A370, H⟩ := H
                replace H : ((tnum_Within.f t377 t378 t379 t380).bind fun t381 => (if t381 = true then ((tnum_Arsh.f t343 t344 a4 64).bind fun bt382 => ((tnum_Arsh.f t338 t339 a4 64).bind fun bt384 => ((tnum_Within.f bt382.1 bt382.2 bt384.1 bt384.2).bind fun t386 => (if t386 = true then ((lockgatelaw03_known.f k).bind fun t387 => (some t387)) else (some false))))) else (some false))) = some r := H
                have A37 := Aside0.mk A370
                clear A370
                replace H := Option.bind_eq_some_iff.mp H
                obtain ⟨t381, A380, H⟩ := H
                replace H : (if t381 = true then ((tnum_Arsh.f t343 t344 a4 64).bind fun bt382 => ((tnum_Arsh.f t338 t339 a4 64).bind fun bt384 => ((tnum_Within.f bt382.1 bt382.2 bt384.1 bt384.2).bind fun t386 => (if t386 = true then ((lockgatelaw03_known.f k).bind fun t387 => (some t387)) else (some false))))) else (some false)) = some r := H
                have A38 := Aside0.mk A380
                clear A380
                by_cases c39 : t381 = true
                · subst c39
                  have H1 : ((tnum_Arsh.f t343 t344 a4 64).bind fun bt382 => ((tnum_Arsh.f t338 t339 a4 64).bind fun bt384 => ((tnum_Within.f bt382.1 bt382.2 bt384.1 bt384.2).bind fun t386 => (if t386 = true then ((lockgatelaw03_known.f k).bind fun t387 => (some t387)) else (some false))))) = some r := by rw [if_pos rfl] at H; exact H
                  clear H
                  have H := H1
                  clear H1
                  replace H := Option.bind_eq_some_iff.mp H
                  obtain ⟨⟨t382, t383⟩, A400, H⟩ := H
                  replace H : ((tnum_Arsh.f t338 t339 a4 64).bind fun bt384 => ((tnum_Within.f t382 t383 bt384.1 bt384.2).bind fun t386 => (if t386 = true then ((lockgatelaw03_known.f k).bind fun t387 => (some t387)) else (some false)))) = some r := H
                  have A40 := Aside0.mk A400
                  clear A400
                  replace H := Option.bind_eq_some_iff.mp H
                  obtain ⟨⟨t384, t385⟩, A410, H⟩ := H
                  replace H : ((tnum_Within.f t382 t383 t384 t385).bind fun t386 => (if t386 = true then ((lockgatelaw03_known.f k).bind fun t387 => (some t387)) else (some false))) = some r := H
                  have A41 := Aside0.mk A410
                  clear A410
                  replace H := Option.bind_eq_some_iff.mp H
                  obtain ⟨t386, A420, H⟩ := H
                  replace H : (if t386 = true then ((lockgatelaw03_known.f k).bind fun t387 => (some t387)) else (some false)) = some r := H
                  have A42 := Aside0.mk A420
                  clear A420
                  by_cases c43 : t386 = true
                  · subst c43
                    have H1 : ((lockgatelaw03_known.f k).bind fun t387 => (some t387)) = some r := by rw [if_pos rfl] at H; exact H
                    clear H
                    have H := H1
                    clear H1
                    replace H := Option.bind_eq_some_iff.mp H
                    obtain ⟨t387, A440, H⟩ := H
                    replace H : (some t387) = some r := H
                    have A44 := Aside0.mk A440
                    clear A440
                    obtain rfl := Option.some.inj H
                    go_enter Try.func7, Try.ntmps7
                    try go_wp2_with (first | ((with_reducible refine gate_dst (N := 5) rfl ?_); refine box_event ?hg (N := 5) ?hd (cs := #[.int .u64 a0_0, .int .u64 a0_1]) (t := 24) ?hr ?_; (case hd => rfl); (case hg => rfl); (case hr => first | (go_simp; done) | (go_simp; rfl)); intro gb336 hg w45 hbox hb; have n0_ := Aside0.mk (below_step (by repeat (first | (with_reducible first | exact HB.out | apply lA_18 | apply lN_18 | apply lD_18) | exact HB.out)) hb); have n1_ := Aside0.mk (hbox); have n2_ := Aside0.mk ((by rw [hg]; exact (below_size (by repeat (first | (with_reducible first | exact HB.out | apply lA_18 | apply lN_18 | apply lD_18) | exact HB.out))) : w.heap.size ≤ gb336)); have n3_ := Aside0.mk ((by rw [hg]; exact (below_size (by repeat (first | (with_reducible first | exact HB.out | apply lA_18 | apply lN_18 | apply lD_18) | exact HB.out))) : w.heap.size ≤ gb336)); clear HB; have HB := n0_; have BK336 := n1_; have GW336 := n2_; have GE336 := n3_; clear n0_ n1_ n2_ n3_; clear hb hbox hg) | ((with_reducible refine gate_dst (N := 6) rfl ?_); refine box_event ?hg (N := 6) ?hd (cs := #[.int .u64 a1_0, .int .u64 a1_1]) (t := 24) ?hr ?_; (case hd => rfl); (case hg => rfl); (case hr => first | (go_simp; done) | (go_simp; rfl)); intro gb337 hg w46 hbox hb; have n0_ := Aside0.mk (blk_below (g := gb336) (o := .cells #[.int .u64 a0_0, .int .u64 a0_1] 24 (0, 0)) (by (with_reducible repeat (first | apply bN_18 | apply bD_18 | apply bA_18)); exact BK336.out) hb); have n1_ := Aside0.mk (below_step (by repeat (first | (with_reducible first | exact HB.out | apply lA_18 | apply lN_18 | apply lD_18 | refine lS_18 ?_ GE336.out) | exact HB.out)) hb); have n2_ := Aside0.mk (hbox); have n3_ := Aside0.mk ((by rw [hg]; exact (below_size (by repeat (first | (with_reducible first | exact HB.out | apply lA_18 | apply lN_18 | apply lD_18 | refine lS_18 ?_ GE336.out) | exact HB.out))) : w.heap.size ≤ gb337)); have n4_ := Aside0.mk ((by rw [hg]; exact (below_size (by repeat (first | (with_reducible first | exact HB.out | apply lA_18 | apply lN_18 | apply lD_18 | refine lS_18 ?_ GE336.out) | exact HB.out))) : w.heap.size ≤ gb337)); have n5_ := Aside0.mk ((by rw [hg]; exact Nat.ne_of_lt (blk_lt (g := gb336) (o := .cells #[.int .u64 a0_0, .int .u64 a0_1] 24 (0, 0)) (by (with_reducible repeat (first | apply bN_18 | apply bD_18 | apply bA_18)); exact BK336.out)) : gb336 ≠ gb337)); have n6_ := Aside0.mk ((by rw [hg]; exact Nat.ne_of_gt (blk_lt (g := gb336) (o := .cells #[.int .u64 a0_0, .int .u64 a0_1] 24 (0, 0)) (by (with_reducible repeat (first | apply bN_18 | apply bD_18 | apply bA_18)); exact BK336.out)) : gb337 ≠ gb336)); clear BK336; clear HB; have BK336 := n0_; have HB := n1_; have BK337 := n2_; have GW337 := n3_; have GE337 := n4_; have NB336_337 := n5_; have NB337_336 := n6_; clear n0_ n1_ n2_ n3_ n4_ n5_ n6_; clear hb hbox hg; have hnb47 := NB336_337.out; have hnc47 := NB337_336.out; have hcz48_0 : w46.cell? ⟨gb336, 0, none⟩ = some (.int .u64 a0_0) := (blk_cell BK336.out 0).trans rfl; have hcz48_1 : w46.cell? ⟨gb336, 1, none⟩ = some (.int .u64 a0_1) := (blk_cell BK336.out 1).trans rfl; have hfz48_0 := blk_frozen BK336.out 0; have hfz48_1 := blk_frozen BK336.out 1) | ((with_reducible refine gate_callee (f := 12) rfl ?_); refine goesL_ (some 13) rfl rfl Try.func12 (by kernel_rfl) rfl #[.agg #[.int .u64 a0_0, .int .u64 a0_1]] rfl (by (try simp only [List.map_toArray, List.map_cons, List.map_nil]); first | done | rfl) ?_; (with_reducible refine (lockgatelaw03_May.calls a0_0 a0_1 t338 t339 _ A6.out).mono ?_); rintro e w49 ⟨rfl, hb⟩; refine ⟨_, rfl, ?_⟩; have n0_ := Aside0.mk (blk_below (g := gb336) (o := .cells #[.int .u64 a0_0, .int .u64 a0_1] 24 (0, 0)) (by (with_reducible repeat (first | apply bN_18 | apply bD_18 | apply bA_18)); exact BK336.out) hb); have n1_ := Aside0.mk (blk_below (g := gb337) (o := .cells #[.int .u64 a1_0, .int .u64 a1_1] 24 (0, 0)) (by (with_reducible repeat (first | apply bN_18 | apply bD_18 | apply bA_18)); exact BK337.out) hb); have n2_ := Aside0.mk (below_step (by repeat (first | (with_reducible first | exact HB.out | apply lA_18 | apply lN_18 | apply lD_18 | refine lS_18 ?_ GE336.out | refine lS_18 ?_ GE337.out) | exact HB.out)) hb); clear BK336; clear BK337; clear HB; have BK336 := n0_; have BK337 := n1_; have HB := n2_; clear n0_ n1_ n2_; (try clear hb); (try clear hb2); (try clear hk); (try clear hi); have hcz50_0 : w49.cell? ⟨gb336, 0, none⟩ = some (.int .u64 a0_0) := (blk_cell BK336.out 0).trans rfl; have hcz50_1 : w49.cell? ⟨gb336, 1, none⟩ = some (.int .u64 a0_1) := (blk_cell BK336.out 1).trans rfl; have hfz50_0 := blk_frozen BK336.out 0; have hfz50_1 := blk_frozen BK336.out 1; have hcz51_0 : w49.cell? ⟨gb337, 0, none⟩ = some (.int .u64 a1_0) := (blk_cell BK337.out 0).trans rfl; have hcz51_1 : w49.cell? ⟨gb337, 1, none⟩ = some (.int .u64 a1_1) := (blk_cell BK337.out 1).trans rfl; have hfz51_0 := blk_frozen BK337.out 0; have hfz51_1 := blk_frozen BK337.out 1) | ((with_reducible refine gate_callee (f := 12) rfl ?_); refine goesL_ (some 15) rfl rfl Try.func12 (by kernel_rfl) rfl #[.agg #[.int .u64 a1_0, .int .u64 a1_1]] rfl (by (try simp only [List.map_toArray, List.map_cons, List.map_nil]); first | done | rfl) ?_; (with_reducible refine (lockgatelaw03_May.calls a1_0 a1_1 t340 t341 _ A7.out).mono ?_); rintro e w52 ⟨rfl, hb⟩; refine ⟨_, rfl, ?_⟩; have n0_ := Aside0.mk (blk_below (g := gb336) (o := .cells #[.int .u64 t338, .int .u64 t339] 24 (0, 0)) (by (with_reducible repeat (first | apply bN_18 | apply bD_18 | apply bA_18)); refine blk_put (cs := #[.int .u64 t338, .int .u64 a0_1]) ?_ 1 _ rfl; (with_reducible repeat (first | apply bN_18 | apply bD_18 | apply bA_18)); refine blk_put (cs := #[.int .u64 a0_0, .int .u64 a0_1]) ?_ 0 _ rfl; (with_reducible repeat (first | apply bN_18 | apply bD_18 | apply bA_18)); exact BK336.out) hb); have n1_ := Aside0.mk (blk_below (g := gb337) (o := .cells #[.int .u64 a1_0, .int .u64 a1_1] 24 (0, 0)) (by (with_reducible repeat (first | apply bN_18 | apply bD_18 | apply bA_18)); refine blk_far ?_ NB337_336.out _; (with_reducible repeat (first | apply bN_18 | apply bD_18 | apply bA_18)); refine blk_far ?_ NB337_336.out _; (with_reducible repeat (first | apply bN_18 | apply bD_18 | apply bA_18)); exact BK337.out) hb); have n2_ := Aside0.mk (below_step (by repeat (first | (with_reducible first | exact HB.out | apply lA_18 | apply lN_18 | apply lD_18 | refine lS_18 ?_ GE336.out | refine lS_18 ?_ GE337.out) | exact HB.out)) hb); clear BK336; clear BK337; clear HB; have BK336 := n0_; have BK337 := n1_; have HB := n2_; clear n0_ n1_ n2_; (try clear hb); (try clear hb2); (try clear hk); (try clear hi); have hcz53_0 : w52.cell? ⟨gb337, 0, none⟩ = some (.int .u64 a1_0) := (blk_cell BK337.out 0).trans rfl; have hcz53_1 : w52.cell? ⟨gb337, 1, none⟩ = some (.int .u64 a1_1) := (blk_cell BK337.out 1).trans rfl; have hfz53_0 := blk_frozen BK337.out 0; have hfz53_1 := blk_frozen BK337.out 1))
                    have n0_ : Aside0 (((w52.setCell ⟨gb337, 0, none⟩ (.int .u64 t340)).setCell ⟨gb337, 1, none⟩ (.int .u64 t341)).heap[gb336]? = some (.cells #[.int .u64 t338, .int .u64 t339] 24 (0, 0))) := ⟨by (with_reducible repeat (first | apply bN_18 | apply bD_18 | apply bA_18)); refine blk_far ?_ NB336_337.out _; (with_reducible repeat (first | apply bN_18 | apply bD_18 | apply bA_18)); refine blk_far ?_ NB336_337.out _; (with_reducible repeat (first | apply bN_18 | apply bD_18 | apply bA_18)); exact BK336.out⟩
                    have n1_ : Aside0 (((w52.setCell ⟨gb337, 0, none⟩ (.int .u64 t340)).setCell ⟨gb337, 1, none⟩ (.int .u64 t341)).heap[gb337]? = some (.cells #[.int .u64 t340, .int .u64 t341] 24 (0, 0))) := ⟨by (with_reducible repeat (first | apply bN_18 | apply bD_18 | apply bA_18)); refine blk_put (cs := #[.int .u64 t340, .int .u64 a1_1]) ?_ 1 _ rfl; (with_reducible repeat (first | apply bN_18 | apply bD_18 | apply bA_18)); refine blk_put (cs := #[.int .u64 a1_0, .int .u64 a1_1]) ?_ 0 _ rfl; (with_reducible repeat (first | apply bN_18 | apply bD_18 | apply bA_18)); exact BK337.out⟩
                    have n2_ : Aside0 (Below w.heap.size w ((w52.setCell ⟨gb337, 0, none⟩ (.int .u64 t340)).setCell ⟨gb337, 1, none⟩ (.int .u64 t341))) := ⟨by repeat (first | (with_reducible first | exact HB.out | apply lA_18 | apply lN_18 | apply lD_18 | refine lS_18 ?_ GE336.out | refine lS_18 ?_ GE337.out) | exact HB.out)⟩
                    (try clear BK336)
                    (try clear BK337)
                    (try clear HB)
                    generalize ((w52.setCell ⟨gb337, 0, none⟩ (.int .u64 t340)).setCell ⟨gb337, 1, none⟩ (.int .u64 t341)) = w54 at n0_ n1_ n2_ ⊢
                    have BK336 := n0_
                    have BK337 := n1_
                    have HB := n2_
                    clear n0_ n1_ n2_
                    have n0_ := Aside0.mk (blk_drew BK336.out)
                    have n1_ := Aside0.mk (blk_drew BK337.out)
                    have n2_ := Aside0.mk (below_drew1 HB.out)
                    clear BK336
                    clear BK337
                    clear HB
                    have BK336 := n0_
                    have BK337 := n1_
                    have HB := n2_
                    clear n0_ n1_ n2_
                    refine start_ (n := 11) (S := fun w' => w'.cell? ⟨gb336, 0, none⟩ = some (.int .u64 t338) ∧ w'.cell? ⟨gb336, 1, none⟩ = some (.int .u64 t339)) (ds := []) #[false, false, false, false, false, false, false, false, false, false, false] (by kernel_rfl) rfl rfl ⟨(blk_cell BK336.out 0).trans rfl, (blk_cell BK336.out 1).trans rfl⟩ (fun hHeld => ?_); refine with_tabW lockgatelaw03_TnumMore.tab3 lockgatelaw03_TnumMore.bits3 (fun HT_ HW_ => ?_)
                    generalize w54.drew = w55 at BK336 BK337 HB hHeld ⊢
                    refine pure_ (i := 1) (N := some 17) (v := ?_) (a' := ?_) #[false, true, false, false, false, false, false, false, false, false, false] rfl rfl (any_of HT_.out (by kernel_rfl)) (fun _ _ _ h => h) (Or.inl ⟨by rfl, ?_⟩) ?_ ?_
                    rotate_left
                    · intro w'
                      go_simp
                      with_reducible rfl
                    rotate_left
                    · simp only [Act.put, List.setIfInBounds_toArray, List.set_cons_zero, List.set_cons_succ, i64_w, i32_w]
                      rfl
                    refine pure_ (i := 3) (N := some 19) (v := ?_) (a' := ?_) #[false, true, false, true, false, false, false, false, false, false, false] rfl rfl (any_of HT_.out (by kernel_rfl)) (fun _ _ _ h => h) (Or.inl ⟨by rfl, ?_⟩) ?_ ?_
                    rotate_left
                    · intro w'
                      go_simp
                      with_reducible rfl
                    rotate_left
                    · simp only [Act.put, List.setIfInBounds_toArray, List.set_cons_zero, List.set_cons_succ, i64_w, i32_w]
                      rfl
                    refine pure_ (i := 5) (N := some 21) (v := ?_) (a' := ?_) #[false, true, false, true, false, true, false, false, false, false, false] rfl rfl (any_of HT_.out (by kernel_rfl)) (fun _ _ _ h => h) (Or.inl ⟨by rfl, ?_⟩) ?_ ?_
                    rotate_left
                    · intro w'
                      go_simp
                      with_reducible rfl
                    rotate_left
                    · simp only [Act.put, List.setIfInBounds_toArray, List.set_cons_zero, List.set_cons_succ, i64_w, i32_w]
                      rfl
                    refine take_ (i := 0) (N := some 16) (v := ?_) (a' := ?_) #[true, true, false, true, false, true, false, false, false, false, false] rfl rfl (take_ofW HT_.out HW_.out (by kernel_rfl)) (fun _ _ _ h => h) (Or.inl ⟨by rfl, ?_⟩) hHeld ?_ ?_
                    rotate_left
                    · rintro w' ⟨s0, s1⟩
                      go_simp
                      with_reducible rfl
                    rotate_left
                    · simp only [Act.put, List.setIfInBounds_toArray, List.set_cons_zero, List.set_cons_succ, i64_w, i32_w]
                      rfl
                    refine take_ (i := 4) (N := some 20) (v := ?_) (a' := ?_) #[true, true, false, true, true, true, false, false, false, false, false] rfl rfl (take_ofW HT_.out HW_.out (by kernel_rfl)) (fun _ _ _ h => h) (Or.inl ⟨by rfl, ?_⟩) hHeld ?_ ?_
                    rotate_left
                    · rintro w' ⟨s0, s1⟩
                      go_simp
                      with_reducible rfl
                    rotate_left
                    · simp only [Act.put, List.setIfInBounds_toArray, List.set_cons_zero, List.set_cons_succ, i64_w, i32_w]
                      rfl
                    refine pure_ (i := 6) (N := some 22) (v := ?_) (a' := ?_) #[true, true, false, true, true, true, true, false, false, false, false] rfl rfl (any_of HT_.out (by kernel_rfl)) (fun _ _ _ h => h) (Or.inl ⟨by rfl, ?_⟩) ?_ ?_
                    rotate_left
                    · intro w'
                      go_simp
                      with_reducible rfl
                    rotate_left
                    · simp only [Act.put, List.setIfInBounds_toArray, List.set_cons_zero, List.set_cons_succ, i64_w, i32_w]
                      rfl
                    refine join_ (σ := Nat) 1 #[true, true, true, true, true, true, true, true, true, true, false] (fun s_ => [(18, .int .u64 t342), (24, .agg #[.int .u64 t343, .int .u64 t344]), (11, .pointer (some ⟨s_, 0, none⟩)), (23, .agg #[.int .u64 t342, .int .u64 (Go.bits .and .u64 t339 a3)])]) (fun s_ w' => (w'.cell? ⟨gb336, 0, none⟩ = some (.int .u64 t338) ∧ w'.cell? ⟨gb336, 1, none⟩ = some (.int .u64 t339)) ∧ (w'.heap[gb336]? = some (.cells #[.int .u64 t338, .int .u64 t339] 24 (0, 0))) ∧ (w'.heap[gb337]? = some (.cells #[.int .u64 t340, .int .u64 t341] 24 (0, 0))) ∧ (w'.heap[s_]? = some (.cells #[.int .u64 0, .int .u64 0] 24 (0, 0))) ∧ (w.heap.size ≤ s_) ∧ (w.heap.size ≤ s_) ∧ (gb336 ≠ s_) ∧ (s_ ≠ gb336) ∧ (gb337 ≠ s_) ∧ (s_ ≠ gb337) ∧ (Below w.heap.size w w')) ?_ ?_
                    rotate_left
                    · intro hCont
                      refine two_ (i := 2) (j := 9) (Ni := some 18) (Nj := some 11) #[true, true, true, true, true, true, true, false, false, false, false] #[true, true, false, true, true, true, true, false, false, true, false] rfl rfl rfl rfl (two_of HT_.out (by kernel_rfl)) (by decide) (by decide) (fun K hK => ?_) (fun K hK => ?_)
                      · skip
                        refine goes_ Try.func15 (by kernel_rfl) rfl #[.agg #[.int .u64 t338, .int .u64 t339], .int .u64 a2] (by rfl) rfl rfl (by (try simp only [List.map_toArray, List.map_cons, List.map_nil]); first | done | rfl) ?_
                        with_reducible refine (lockgatelaw03_one.calls t338 t339 a2 t342 _ A8.out).mono ?_
                        rintro e w56 ⟨rfl, hb⟩
                        refine ⟨_, rfl, ?_⟩
                        have n0_ := Aside0.mk (blk_below (g := gb336) (o := .cells #[.int .u64 t338, .int .u64 t339] 24 (0, 0)) (by (with_reducible repeat (first | apply bN_18 | apply bD_18 | apply bA_18)); exact BK336.out) hb)
                        have n1_ := Aside0.mk (blk_below (g := gb337) (o := .cells #[.int .u64 t340, .int .u64 t341] 24 (0, 0)) (by (with_reducible repeat (first | apply bN_18 | apply bD_18 | apply bA_18)); exact BK337.out) hb)
                        have n2_ := Aside0.mk (below_step (by repeat (first | (with_reducible first | exact HB.out | apply lA_18 | apply lN_18 | apply lD_18 | refine lS_18 ?_ GE336.out | refine lS_18 ?_ GE337.out) | exact HB.out)) hb)
                        clear BK336
                        clear BK337
                        clear HB
                        have BK336 := n0_
                        have BK337 := n1_
                        have HB := n2_
                        clear n0_ n1_ n2_
                        (try clear hb)
                        (try clear hb2)
                        (try clear hk)
                        (try clear hi)
                        refine hK.out _ _ ⟨(blk_cell BK336.out 0).trans rfl, (blk_cell BK336.out 1).trans rfl⟩ (fun hHeld => ?_)
                        clear hK K
                        refine norm_ (a' := ?_) ?_ ?_
                        rotate_left
                        · show Act.put _ (some 18) _ = _
                          simp only [Act.put, List.setIfInBounds_toArray, List.set_cons_zero, List.set_cons_succ, i64_w, i32_w]
                          rfl
                        refine pure_ (i := 7) (N := some 23) (v := ?_) (a' := ?_) #[true, true, true, true, true, true, true, true, false, false, false] rfl rfl (any_of HT_.out (by kernel_rfl)) (fun _ _ _ h => h) (Or.inl ⟨by rfl, ?_⟩) ?_ ?_
                        rotate_left
                        · intro w'
                          go_simp
                          with_reducible rfl
                        rotate_left
                        · simp only [Act.put, List.setIfInBounds_toArray, List.set_cons_zero, List.set_cons_succ, i64_w, i32_w]
                          rfl
                        refine two_ (i := 8) (j := 9) (Ni := some 24) (Nj := some 11) #[true, true, true, true, true, true, true, true, true, false, false] #[true, true, true, true, true, true, true, true, false, true, false] rfl rfl rfl rfl (two_of HT_.out (by kernel_rfl)) (by decide) (by decide) (fun K hK => ?_) (fun K hK => ?_)
                        · skip
                          refine goes_ Try.func12 (by kernel_rfl) rfl #[.agg #[.int .u64 t342, .int .u64 (Go.bits .and .u64 t339 a3)]] (by rfl) rfl rfl (by (try simp only [List.map_toArray, List.map_cons, List.map_nil]); first | done | rfl) ?_
                          with_reducible refine (lockgatelaw03_May.calls t342 (Go.bits .and .u64 t339 a3) t343 t344 _ A9.out).mono ?_
                          rintro e w57 ⟨rfl, hb⟩
                          refine ⟨_, rfl, ?_⟩
                          have n0_ := Aside0.mk (blk_below (g := gb336) (o := .cells #[.int .u64 t338, .int .u64 t339] 24 (0, 0)) (by (with_reducible repeat (first | apply bN_18 | apply bD_18 | apply bA_18)); exact BK336.out) hb)
                          have n1_ := Aside0.mk (blk_below (g := gb337) (o := .cells #[.int .u64 t340, .int .u64 t341] 24 (0, 0)) (by (with_reducible repeat (first | apply bN_18 | apply bD_18 | apply bA_18)); exact BK337.out) hb)
                          have n2_ := Aside0.mk (below_step (by repeat (first | (with_reducible first | exact HB.out | apply lA_18 | apply lN_18 | apply lD_18 | refine lS_18 ?_ GE336.out | refine lS_18 ?_ GE337.out) | exact HB.out)) hb)
                          clear BK336
                          clear BK337
                          clear HB
                          have BK336 := n0_
                          have BK337 := n1_
                          have HB := n2_
                          clear n0_ n1_ n2_
                          (try clear hb)
                          (try clear hb2)
                          (try clear hk)
                          (try clear hi)
                          refine hK.out _ _ ⟨(blk_cell BK336.out 0).trans rfl, (blk_cell BK336.out 1).trans rfl⟩ (fun hHeld => ?_)
                          clear hK K
                          refine norm_ (a' := ?_) ?_ ?_
                          rotate_left
                          · show Act.put _ (some 24) _ = _
                            simp only [Act.put, List.setIfInBounds_toArray, List.set_cons_zero, List.set_cons_succ, i64_w, i32_w]
                            rfl
                          refine one_ (i := 9) (N := some 11) #[true, true, true, true, true, true, true, true, true, true, false] rfl rfl (one_of HT_.out (by kernel_rfl)) (by decide) (fun K hK => ?_)
                          refine box_step ?hg (N := 11) ?hd (cs := #[.int .u64 0, .int .u64 0]) (t := 24) ?hr ?_; (case hd => rfl); (case hg => rfl); (case hr => first | (go_simp; done) | (go_simp; rfl))
                          intro gb345 hg w58 hbox hb
                          have n0_ := Aside0.mk (blk_below (g := gb336) (o := .cells #[.int .u64 t338, .int .u64 t339] 24 (0, 0)) (by (with_reducible repeat (first | apply bN_18 | apply bD_18 | apply bA_18)); exact BK336.out) hb)
                          have n1_ := Aside0.mk (blk_below (g := gb337) (o := .cells #[.int .u64 t340, .int .u64 t341] 24 (0, 0)) (by (with_reducible repeat (first | apply bN_18 | apply bD_18 | apply bA_18)); exact BK337.out) hb)
                          have n2_ := Aside0.mk (below_step (by repeat (first | (with_reducible first | exact HB.out | apply lA_18 | apply lN_18 | apply lD_18 | refine lS_18 ?_ GE336.out | refine lS_18 ?_ GE337.out) | exact HB.out)) hb)
                          have n3_ := Aside0.mk (hbox)
                          have n4_ := Aside0.mk ((by rw [hg]; exact (below_size (by repeat (first | (with_reducible first | exact HB.out | apply lA_18 | apply lN_18 | apply lD_18 | refine lS_18 ?_ GE336.out | refine lS_18 ?_ GE337.out) | exact HB.out))) : w.heap.size ≤ gb345))
                          have n5_ := Aside0.mk ((by rw [hg]; exact (below_size (by repeat (first | (with_reducible first | exact HB.out | apply lA_18 | apply lN_18 | apply lD_18 | refine lS_18 ?_ GE336.out | refine lS_18 ?_ GE337.out) | exact HB.out))) : w.heap.size ≤ gb345))
                          have n6_ := Aside0.mk ((by rw [hg]; exact Nat.ne_of_lt (blk_lt (g := gb336) (o := .cells #[.int .u64 t338, .int .u64 t339] 24 (0, 0)) (by (with_reducible repeat (first | apply bN_18 | apply bD_18 | apply bA_18)); exact BK336.out)) : gb336 ≠ gb345))
                          have n7_ := Aside0.mk ((by rw [hg]; exact Nat.ne_of_gt (blk_lt (g := gb336) (o := .cells #[.int .u64 t338, .int .u64 t339] 24 (0, 0)) (by (with_reducible repeat (first | apply bN_18 | apply bD_18 | apply bA_18)); exact BK336.out)) : gb345 ≠ gb336))
                          have n8_ := Aside0.mk ((by rw [hg]; exact Nat.ne_of_lt (blk_lt (g := gb337) (o := .cells #[.int .u64 t340, .int .u64 t341] 24 (0, 0)) (by (with_reducible repeat (first | apply bN_18 | apply bD_18 | apply bA_18)); exact BK337.out)) : gb337 ≠ gb345))
                          have n9_ := Aside0.mk ((by rw [hg]; exact Nat.ne_of_gt (blk_lt (g := gb337) (o := .cells #[.int .u64 t340, .int .u64 t341] 24 (0, 0)) (by (with_reducible repeat (first | apply bN_18 | apply bD_18 | apply bA_18)); exact BK337.out)) : gb345 ≠ gb337))
                          clear BK336
                          clear BK337
                          clear HB
                          have BK336 := n0_
                          have BK337 := n1_
                          have HB := n2_
                          have BK345 := n3_
                          have GW345 := n4_
                          have GE345 := n5_
                          have NB336_345 := n6_
                          have NB345_336 := n7_
                          have NB337_345 := n8_
                          have NB345_337 := n9_
                          clear n0_ n1_ n2_ n3_ n4_ n5_ n6_ n7_ n8_ n9_
                          clear hb hbox hg
                          refine hK.out _ _ ⟨(blk_cell BK336.out 0).trans rfl, (blk_cell BK336.out 1).trans rfl⟩ (fun hHeld => ?_)
                          clear hK K
                          refine norm_ (a' := ?_) ?_ ?_
                          rotate_left
                          · show Act.put _ (some 11) _ = _
                            simp only [Act.put, List.setIfInBounds_toArray, List.set_cons_zero, List.set_cons_succ, i64_w, i32_w]
                            rfl
                          exact norm_ (by simp only [putAll, Act.put, List.setIfInBounds_toArray, List.set_cons_zero, List.set_cons_succ]) (hCont (gb345) _ ⟨hHeld, (by (with_reducible repeat (first | apply bN_18 | apply bD_18 | apply bA_18)); exact BK336.out), (by (with_reducible repeat (first | apply bN_18 | apply bD_18 | apply bA_18)); exact BK337.out), (by (with_reducible repeat (first | apply bN_18 | apply bD_18 | apply bA_18)); exact BK345.out), GW345.out, GE345.out, NB336_345.out, NB345_336.out, NB337_345.out, NB345_337.out, (by repeat (first | (with_reducible first | exact HB.out | apply lA_18 | apply lN_18 | apply lD_18 | refine lS_18 ?_ GE336.out | refine lS_18 ?_ GE337.out | refine lS_18 ?_ GE345.out) | exact HB.out))⟩)
                        · skip
                          refine box_step ?hg (N := 11) ?hd (cs := #[.int .u64 0, .int .u64 0]) (t := 24) ?hr ?_; (case hd => rfl); (case hg => rfl); (case hr => first | (go_simp; done) | (go_simp; rfl))
                          intro gb345 hg w57 hbox hb
                          have n0_ := Aside0.mk (blk_below (g := gb336) (o := .cells #[.int .u64 t338, .int .u64 t339] 24 (0, 0)) (by (with_reducible repeat (first | apply bN_18 | apply bD_18 | apply bA_18)); exact BK336.out) hb)
                          have n1_ := Aside0.mk (blk_below (g := gb337) (o := .cells #[.int .u64 t340, .int .u64 t341] 24 (0, 0)) (by (with_reducible repeat (first | apply bN_18 | apply bD_18 | apply bA_18)); exact BK337.out) hb)
                          have n2_ := Aside0.mk (below_step (by repeat (first | (with_reducible first | exact HB.out | apply lA_18 | apply lN_18 | apply lD_18 | refine lS_18 ?_ GE336.out | refine lS_18 ?_ GE337.out) | exact HB.out)) hb)
                          have n3_ := Aside0.mk (hbox)
                          have n4_ := Aside0.mk ((by rw [hg]; exact (below_size (by repeat (first | (with_reducible first | exact HB.out | apply lA_18 | apply lN_18 | apply lD_18 | refine lS_18 ?_ GE336.out | refine lS_18 ?_ GE337.out) | exact HB.out))) : w.heap.size ≤ gb345))
                          have n5_ := Aside0.mk ((by rw [hg]; exact (below_size (by repeat (first | (with_reducible first | exact HB.out | apply lA_18 | apply lN_18 | apply lD_18 | refine lS_18 ?_ GE336.out | refine lS_18 ?_ GE337.out) | exact HB.out))) : w.heap.size ≤ gb345))
                          have n6_ := Aside0.mk ((by rw [hg]; exact Nat.ne_of_lt (blk_lt (g := gb336) (o := .cells #[.int .u64 t338, .int .u64 t339] 24 (0, 0)) (by (with_reducible repeat (first | apply bN_18 | apply bD_18 | apply bA_18)); exact BK336.out)) : gb336 ≠ gb345))
                          have n7_ := Aside0.mk ((by rw [hg]; exact Nat.ne_of_gt (blk_lt (g := gb336) (o := .cells #[.int .u64 t338, .int .u64 t339] 24 (0, 0)) (by (with_reducible repeat (first | apply bN_18 | apply bD_18 | apply bA_18)); exact BK336.out)) : gb345 ≠ gb336))
                          have n8_ := Aside0.mk ((by rw [hg]; exact Nat.ne_of_lt (blk_lt (g := gb337) (o := .cells #[.int .u64 t340, .int .u64 t341] 24 (0, 0)) (by (with_reducible repeat (first | apply bN_18 | apply bD_18 | apply bA_18)); exact BK337.out)) : gb337 ≠ gb345))
                          have n9_ := Aside0.mk ((by rw [hg]; exact Nat.ne_of_gt (blk_lt (g := gb337) (o := .cells #[.int .u64 t340, .int .u64 t341] 24 (0, 0)) (by (with_reducible repeat (first | apply bN_18 | apply bD_18 | apply bA_18)); exact BK337.out)) : gb345 ≠ gb337))
                          clear BK336
                          clear BK337
                          clear HB
                          have BK336 := n0_
                          have BK337 := n1_
                          have HB := n2_
                          have BK345 := n3_
                          have GW345 := n4_
                          have GE345 := n5_
                          have NB336_345 := n6_
                          have NB345_336 := n7_
                          have NB337_345 := n8_
                          have NB345_337 := n9_
                          clear n0_ n1_ n2_ n3_ n4_ n5_ n6_ n7_ n8_ n9_
                          clear hb hbox hg
                          refine hK.out _ _ ⟨(blk_cell BK336.out 0).trans rfl, (blk_cell BK336.out 1).trans rfl⟩ (fun hHeld => ?_)
                          clear hK K
                          refine norm_ (a' := ?_) ?_ ?_
                          rotate_left
                          · show Act.put _ (some 11) _ = _
                            simp only [Act.put, List.setIfInBounds_toArray, List.set_cons_zero, List.set_cons_succ, i64_w, i32_w]
                            rfl
                          refine one_ (i := 8) (N := some 24) #[true, true, true, true, true, true, true, true, true, true, false] rfl rfl (one_of HT_.out (by kernel_rfl)) (by decide) (fun K hK => ?_)
                          refine goes_ Try.func12 (by kernel_rfl) rfl #[.agg #[.int .u64 t342, .int .u64 (Go.bits .and .u64 t339 a3)]] (by rfl) rfl rfl (by (try simp only [List.map_toArray, List.map_cons, List.map_nil]); first | done | rfl) ?_
                          with_reducible refine (lockgatelaw03_May.calls t342 (Go.bits .and .u64 t339 a3) t343 t344 _ A9.out).mono ?_
                          rintro e w58 ⟨rfl, hb⟩
                          refine ⟨_, rfl, ?_⟩
                          have n0_ := Aside0.mk (blk_below (g := gb336) (o := .cells #[.int .u64 t338, .int .u64 t339] 24 (0, 0)) (by (with_reducible repeat (first | apply bN_18 | apply bD_18 | apply bA_18)); exact BK336.out) hb)
                          have n1_ := Aside0.mk (blk_below (g := gb337) (o := .cells #[.int .u64 t340, .int .u64 t341] 24 (0, 0)) (by (with_reducible repeat (first | apply bN_18 | apply bD_18 | apply bA_18)); exact BK337.out) hb)
                          have n2_ := Aside0.mk (blk_below (g := gb345) (o := .cells #[.int .u64 0, .int .u64 0] 24 (0, 0)) (by (with_reducible repeat (first | apply bN_18 | apply bD_18 | apply bA_18)); exact BK345.out) hb)
                          have n3_ := Aside0.mk (below_step (by repeat (first | (with_reducible first | exact HB.out | apply lA_18 | apply lN_18 | apply lD_18 | refine lS_18 ?_ GE336.out | refine lS_18 ?_ GE337.out | refine lS_18 ?_ GE345.out) | exact HB.out)) hb)
                          clear BK336
                          clear BK337
                          clear BK345
                          clear HB
                          have BK336 := n0_
                          have BK337 := n1_
                          have BK345 := n2_
                          have HB := n3_
                          clear n0_ n1_ n2_ n3_
                          (try clear hb)
                          (try clear hb2)
                          (try clear hk)
                          (try clear hi)
                          refine hK.out _ _ ⟨(blk_cell BK336.out 0).trans rfl, (blk_cell BK336.out 1).trans rfl⟩ (fun hHeld => ?_)
                          clear hK K
                          refine norm_ (a' := ?_) ?_ ?_
                          rotate_left
                          · show Act.put _ (some 24) _ = _
                            simp only [Act.put, List.setIfInBounds_toArray, List.set_cons_zero, List.set_cons_succ, i64_w, i32_w]
                            rfl
                          exact norm_ (by simp only [putAll, Act.put, List.setIfInBounds_toArray, List.set_cons_zero, List.set_cons_succ]) (hCont (gb345) _ ⟨hHeld, (by (with_reducible repeat (first | apply bN_18 | apply bD_18 | apply bA_18)); exact BK336.out), (by (with_reducible repeat (first | apply bN_18 | apply bD_18 | apply bA_18)); exact BK337.out), (by (with_reducible repeat (first | apply bN_18 | apply bD_18 | apply bA_18)); exact BK345.out), GW345.out, GE345.out, NB336_345.out, NB345_336.out, NB337_345.out, NB345_337.out, (by repeat (first | (with_reducible first | exact HB.out | apply lA_18 | apply lN_18 | apply lD_18 | refine lS_18 ?_ GE336.out | refine lS_18 ?_ GE337.out | refine lS_18 ?_ GE345.out) | exact HB.out))⟩)
                      · skip
                        refine box_step ?hg (N := 11) ?hd (cs := #[.int .u64 0, .int .u64 0]) (t := 24) ?hr ?_; (case hd => rfl); (case hg => rfl); (case hr => first | (go_simp; done) | (go_simp; rfl))
                        intro gb345 hg w56 hbox hb
                        have n0_ := Aside0.mk (blk_below (g := gb336) (o := .cells #[.int .u64 t338, .int .u64 t339] 24 (0, 0)) (by (with_reducible repeat (first | apply bN_18 | apply bD_18 | apply bA_18)); exact BK336.out) hb)
                        have n1_ := Aside0.mk (blk_below (g := gb337) (o := .cells #[.int .u64 t340, .int .u64 t341] 24 (0, 0)) (by (with_reducible repeat (first | apply bN_18 | apply bD_18 | apply bA_18)); exact BK337.out) hb)
                        have n2_ := Aside0.mk (below_step (by repeat (first | (with_reducible first | exact HB.out | apply lA_18 | apply lN_18 | apply lD_18 | refine lS_18 ?_ GE336.out | refine lS_18 ?_ GE337.out) | exact HB.out)) hb)
                        have n3_ := Aside0.mk (hbox)
                        have n4_ := Aside0.mk ((by rw [hg]; exact (below_size (by repeat (first | (with_reducible first | exact HB.out | apply lA_18 | apply lN_18 | apply lD_18 | refine lS_18 ?_ GE336.out | refine lS_18 ?_ GE337.out) | exact HB.out))) : w.heap.size ≤ gb345))
                        have n5_ := Aside0.mk ((by rw [hg]; exact (below_size (by repeat (first | (with_reducible first | exact HB.out | apply lA_18 | apply lN_18 | apply lD_18 | refine lS_18 ?_ GE336.out | refine lS_18 ?_ GE337.out) | exact HB.out))) : w.heap.size ≤ gb345))
                        have n6_ := Aside0.mk ((by rw [hg]; exact Nat.ne_of_lt (blk_lt (g := gb336) (o := .cells #[.int .u64 t338, .int .u64 t339] 24 (0, 0)) (by (with_reducible repeat (first | apply bN_18 | apply bD_18 | apply bA_18)); exact BK336.out)) : gb336 ≠ gb345))
                        have n7_ := Aside0.mk ((by rw [hg]; exact Nat.ne_of_gt (blk_lt (g := gb336) (o := .cells #[.int .u64 t338, .int .u64 t339] 24 (0, 0)) (by (with_reducible repeat (first | apply bN_18 | apply bD_18 | apply bA_18)); exact BK336.out)) : gb345 ≠ gb336))
                        have n8_ := Aside0.mk ((by rw [hg]; exact Nat.ne_of_lt (blk_lt (g := gb337) (o := .cells #[.int .u64 t340, .int .u64 t341] 24 (0, 0)) (by (with_reducible repeat (first | apply bN_18 | apply bD_18 | apply bA_18)); exact BK337.out)) : gb337 ≠ gb345))
                        have n9_ := Aside0.mk ((by rw [hg]; exact Nat.ne_of_gt (blk_lt (g := gb337) (o := .cells #[.int .u64 t340, .int .u64 t341] 24 (0, 0)) (by (with_reducible repeat (first | apply bN_18 | apply bD_18 | apply bA_18)); exact BK337.out)) : gb345 ≠ gb337))
                        clear BK336
                        clear BK337
                        clear HB
                        have BK336 := n0_
                        have BK337 := n1_
                        have HB := n2_
                        have BK345 := n3_
                        have GW345 := n4_
                        have GE345 := n5_
                        have NB336_345 := n6_
                        have NB345_336 := n7_
                        have NB337_345 := n8_
                        have NB345_337 := n9_
                        clear n0_ n1_ n2_ n3_ n4_ n5_ n6_ n7_ n8_ n9_
                        clear hb hbox hg
                        refine hK.out _ _ ⟨(blk_cell BK336.out 0).trans rfl, (blk_cell BK336.out 1).trans rfl⟩ (fun hHeld => ?_)
                        clear hK K
                        refine norm_ (a' := ?_) ?_ ?_
                        rotate_left
                        · show Act.put _ (some 11) _ = _
                          simp only [Act.put, List.setIfInBounds_toArray, List.set_cons_zero, List.set_cons_succ, i64_w, i32_w]
                          rfl
                        refine one_ (i := 2) (N := some 18) #[true, true, true, true, true, true, true, false, false, true, false] rfl rfl (one_of HT_.out (by kernel_rfl)) (by decide) (fun K hK => ?_)
                        refine goes_ Try.func15 (by kernel_rfl) rfl #[.agg #[.int .u64 t338, .int .u64 t339], .int .u64 a2] (by rfl) rfl rfl (by (try simp only [List.map_toArray, List.map_cons, List.map_nil]); first | done | rfl) ?_
                        with_reducible refine (lockgatelaw03_one.calls t338 t339 a2 t342 _ A8.out).mono ?_
                        rintro e w57 ⟨rfl, hb⟩
                        refine ⟨_, rfl, ?_⟩
                        have n0_ := Aside0.mk (blk_below (g := gb336) (o := .cells #[.int .u64 t338, .int .u64 t339] 24 (0, 0)) (by (with_reducible repeat (first | apply bN_18 | apply bD_18 | apply bA_18)); exact BK336.out) hb)
                        have n1_ := Aside0.mk (blk_below (g := gb337) (o := .cells #[.int .u64 t340, .int .u64 t341] 24 (0, 0)) (by (with_reducible repeat (first | apply bN_18 | apply bD_18 | apply bA_18)); exact BK337.out) hb)
                        have n2_ := Aside0.mk (blk_below (g := gb345) (o := .cells #[.int .u64 0, .int .u64 0] 24 (0, 0)) (by (with_reducible repeat (first | apply bN_18 | apply bD_18 | apply bA_18)); exact BK345.out) hb)
                        have n3_ := Aside0.mk (below_step (by repeat (first | (with_reducible first | exact HB.out | apply lA_18 | apply lN_18 | apply lD_18 | refine lS_18 ?_ GE336.out | refine lS_18 ?_ GE337.out | refine lS_18 ?_ GE345.out) | exact HB.out)) hb)
                        clear BK336
                        clear BK337
                        clear BK345
                        clear HB
                        have BK336 := n0_
                        have BK337 := n1_
                        have BK345 := n2_
                        have HB := n3_
                        clear n0_ n1_ n2_ n3_
                        (try clear hb)
                        (try clear hb2)
                        (try clear hk)
                        (try clear hi)
                        refine hK.out _ _ ⟨(blk_cell BK336.out 0).trans rfl, (blk_cell BK336.out 1).trans rfl⟩ (fun hHeld => ?_)
                        clear hK K
                        refine norm_ (a' := ?_) ?_ ?_
                        rotate_left
                        · show Act.put _ (some 18) _ = _
                          simp only [Act.put, List.setIfInBounds_toArray, List.set_cons_zero, List.set_cons_succ, i64_w, i32_w]
                          rfl
                        refine pure_ (i := 7) (N := some 23) (v := ?_) (a' := ?_) #[true, true, true, true, true, true, true, true, false, true, false] rfl rfl (any_of HT_.out (by kernel_rfl)) (fun _ _ _ h => h) (Or.inl ⟨by rfl, ?_⟩) ?_ ?_
                        rotate_left
                        · intro w'
                          go_simp
                          with_reducible rfl
                        rotate_left
                        · simp only [Act.put, List.setIfInBounds_toArray, List.set_cons_zero, List.set_cons_succ, i64_w, i32_w]
                          rfl
                        refine one_ (i := 8) (N := some 24) #[true, true, true, true, true, true, true, true, true, true, false] rfl rfl (one_of HT_.out (by kernel_rfl)) (by decide) (fun K hK => ?_)
                        refine goes_ Try.func12 (by kernel_rfl) rfl #[.agg #[.int .u64 t342, .int .u64 (Go.bits .and .u64 t339 a3)]] (by rfl) rfl rfl (by (try simp only [List.map_toArray, List.map_cons, List.map_nil]); first | done | rfl) ?_
                        with_reducible refine (lockgatelaw03_May.calls t342 (Go.bits .and .u64 t339 a3) t343 t344 _ A9.out).mono ?_
                        rintro e w58 ⟨rfl, hb⟩
                        refine ⟨_, rfl, ?_⟩
                        have n0_ := Aside0.mk (blk_below (g := gb336) (o := .cells #[.int .u64 t338, .int .u64 t339] 24 (0, 0)) (by (with_reducible repeat (first | apply bN_18 | apply bD_18 | apply bA_18)); exact BK336.out) hb)
                        have n1_ := Aside0.mk (blk_below (g := gb337) (o := .cells #[.int .u64 t340, .int .u64 t341] 24 (0, 0)) (by (with_reducible repeat (first | apply bN_18 | apply bD_18 | apply bA_18)); exact BK337.out) hb)
                        have n2_ := Aside0.mk (blk_below (g := gb345) (o := .cells #[.int .u64 0, .int .u64 0] 24 (0, 0)) (by (with_reducible repeat (first | apply bN_18 | apply bD_18 | apply bA_18)); exact BK345.out) hb)
                        have n3_ := Aside0.mk (below_step (by repeat (first | (with_reducible first | exact HB.out | apply lA_18 | apply lN_18 | apply lD_18 | refine lS_18 ?_ GE336.out | refine lS_18 ?_ GE337.out | refine lS_18 ?_ GE345.out) | exact HB.out)) hb)
                        clear BK336
                        clear BK337
                        clear BK345
                        clear HB
                        have BK336 := n0_
                        have BK337 := n1_
                        have BK345 := n2_
                        have HB := n3_
                        clear n0_ n1_ n2_ n3_
                        (try clear hb)
                        (try clear hb2)
                        (try clear hk)
                        (try clear hi)
                        refine hK.out _ _ ⟨(blk_cell BK336.out 0).trans rfl, (blk_cell BK336.out 1).trans rfl⟩ (fun hHeld => ?_)
                        clear hK K
                        refine norm_ (a' := ?_) ?_ ?_
                        rotate_left
                        · show Act.put _ (some 24) _ = _
                          simp only [Act.put, List.setIfInBounds_toArray, List.set_cons_zero, List.set_cons_succ, i64_w, i32_w]
                          rfl
                        exact norm_ (by simp only [putAll, Act.put, List.setIfInBounds_toArray, List.set_cons_zero, List.set_cons_succ]) (hCont (gb345) _ ⟨hHeld, (by (with_reducible repeat (first | apply bN_18 | apply bD_18 | apply bA_18)); exact BK336.out), (by (with_reducible repeat (first | apply bN_18 | apply bD_18 | apply bA_18)); exact BK337.out), (by (with_reducible repeat (first | apply bN_18 | apply bD_18 | apply bA_18)); exact BK345.out), GW345.out, GE345.out, NB336_345.out, NB345_336.out, NB337_345.out, NB345_337.out, (by repeat (first | (with_reducible first | exact HB.out | apply lA_18 | apply lN_18 | apply lD_18 | refine lS_18 ?_ GE336.out | refine lS_18 ?_ GE337.out | refine lS_18 ?_ GE345.out) | exact HB.out))⟩)
                    rintro gb345 w59 ⟨hS_, h0_, h1_, h2_, h3_, h4_, h5_, h6_, h7_, h8_, h9_⟩
                    have n0_ : Aside0 (w59.heap[gb336]? = some (.cells #[.int .u64 t338, .int .u64 t339] 24 (0, 0))) := ⟨h0_⟩
                    have n1_ : Aside0 (w59.heap[gb337]? = some (.cells #[.int .u64 t340, .int .u64 t341] 24 (0, 0))) := ⟨h1_⟩
                    have n2_ : Aside0 (w59.heap[gb345]? = some (.cells #[.int .u64 0, .int .u64 0] 24 (0, 0))) := ⟨h2_⟩
                    have n3_ : Aside0 (w.heap.size ≤ gb345) := ⟨h3_⟩
                    have n4_ : Aside0 (w.heap.size ≤ gb345) := ⟨h4_⟩
                    have n5_ : Aside0 (gb336 ≠ gb345) := ⟨h5_⟩
                    have n6_ : Aside0 (gb345 ≠ gb336) := ⟨h6_⟩
                    have n7_ : Aside0 (gb337 ≠ gb345) := ⟨h7_⟩
                    have n8_ : Aside0 (gb345 ≠ gb337) := ⟨h8_⟩
                    have n9_ : Aside0 (Below w.heap.size w w59) := ⟨h9_⟩
                    clear BK336
                    clear BK337
                    clear HB
                    clear h0_ h1_ h2_ h3_ h4_ h5_ h6_ h7_ h8_ h9_
                    have BK336 := n0_
                    have BK337 := n1_
                    have BK345 := n2_
                    have GW345 := n3_
                    have GE345 := n4_
                    have NB336_345 := n5_
                    have NB345_336 := n6_
                    have NB337_345 := n7_
                    have NB345_337 := n8_
                    have HB := n9_
                    clear n0_ n1_ n2_ n3_ n4_ n5_ n6_ n7_ n8_ n9_
                    have hHeld : w59.cell? ⟨gb336, 0, none⟩ = some (.int .u64 t338) ∧ w59.cell? ⟨gb336, 1, none⟩ = some (.int .u64 t339) := hS_
                    refine norm_ (a' := ?_) ?_ ?_
                    rotate_left
                    · simp only [putAll, Act.put, List.setIfInBounds_toArray, List.set_cons_zero, List.set_cons_succ]
                      rfl
                    refine one_ (i := 10) (N := none) #[true, true, true, true, true, true, true, true, true, true, true] rfl rfl (one_of HT_.out (by kernel_rfl)) (by decide) (fun K hK => ?_)
                    have hs60 : w59.cell? ⟨gb345, 0, none⟩ = some (.int .u64 0) := (blk_cell BK345.out 0).trans rfl
                    have hfs60 := blk_frozen BK345.out 0
                    have hns60_0 := NB336_345.out
                    have hns60_1 := NB337_345.out
                    have hms60_0 := NB345_336.out
                    have hms60_1 := NB345_337.out
                    have hs61 : w59.cell? ⟨gb345, 1, none⟩ = some (.int .u64 0) := (blk_cell BK345.out 1).trans rfl
                    have hfs61 := blk_frozen BK345.out 1
                    have hns61_0 := NB336_345.out
                    have hns61_1 := NB337_345.out
                    have hms61_0 := NB345_336.out
                    have hms61_1 := NB345_337.out
                    refine skip_ (w1 := ?_) (by rfl) rfl ?_ ?_
                    rotate_left
                    · go_simp
                      rfl
                    refine hK.out _ _ ⟨((cell_far (p := ⟨gb345, _, none⟩) NB336_345.out _).trans (((cell_far (p := ⟨gb345, _, none⟩) NB336_345.out _).trans (hHeld.1)))), ((cell_far (p := ⟨gb345, _, none⟩) NB336_345.out _).trans (((cell_far (p := ⟨gb345, _, none⟩) NB336_345.out _).trans (hHeld.2))))⟩ (fun hHeld => ?_)
                    clear hK K
                    refine done_ (done_of HT_.out (by kernel_rfl)) ?_
                    have hnb62 := NB345_336.out
                    have hnc62 := NB336_345.out
                    have hnb63 := NB345_337.out
                    have hnc63 := NB337_345.out
                    have hcz64_0 : w59.cell? ⟨gb345, 0, none⟩ = some (.int .u64 0) := (blk_cell BK345.out 0).trans rfl
                    have hcz64_1 : w59.cell? ⟨gb345, 1, none⟩ = some (.int .u64 0) := (blk_cell BK345.out 1).trans rfl
                    have hfz64_0 := blk_frozen BK345.out 0
                    have hfz64_1 := blk_frozen BK345.out 1
                    have hcz65_0 : w59.cell? ⟨gb336, 0, none⟩ = some (.int .u64 t338) := (blk_cell BK336.out 0).trans rfl
                    have hcz65_1 : w59.cell? ⟨gb336, 1, none⟩ = some (.int .u64 t339) := (blk_cell BK336.out 1).trans rfl
                    have hfz65_0 := blk_frozen BK336.out 0
                    have hfz65_1 := blk_frozen BK336.out 1
                    try go_wp2_with (first | ((with_reducible refine gate_callee (f := 13) rfl ?_); refine goesL_ (some 27) rfl rfl Try.func13 (by kernel_rfl) rfl #[.agg #[.int .u64 t343, .int .u64 t344], .agg #[.int .u64 t338, .int .u64 t339]] rfl (by (try simp only [List.map_toArray, List.map_cons, List.map_nil]); first | done | rfl) ?_; (with_reducible refine (tnum_Within.calls t343 t344 t338 t339 true _ A10.out).mono ?_); rintro e w66 ⟨rfl, hb⟩; refine ⟨_, rfl, ?_⟩; have n0_ := Aside0.mk (blk_below (g := gb336) (o := .cells #[.int .u64 t338, .int .u64 t339] 24 (0, 0)) (by (with_reducible repeat (first | apply bN_18 | apply bD_18 | apply bA_18)); refine blk_far ?_ NB336_345.out _; (with_reducible repeat (first | apply bN_18 | apply bD_18 | apply bA_18)); refine blk_far ?_ NB336_345.out _; (with_reducible repeat (first | apply bN_18 | apply bD_18 | apply bA_18)); exact BK336.out) hb); have n1_ := Aside0.mk (blk_below (g := gb337) (o := .cells #[.int .u64 t340, .int .u64 t341] 24 (0, 0)) (by (with_reducible repeat (first | apply bN_18 | apply bD_18 | apply bA_18)); refine blk_far ?_ NB337_345.out _; (with_reducible repeat (first | apply bN_18 | apply bD_18 | apply bA_18)); refine blk_far ?_ NB337_345.out _; (with_reducible repeat (first | apply bN_18 | apply bD_18 | apply bA_18)); exact BK337.out) hb); have n2_ := Aside0.mk (blk_below (g := gb345) (o := .cells #[.int .u64 t343, .int .u64 t344] 24 (0, 0)) (by (with_reducible repeat (first | apply bN_18 | apply bD_18 | apply bA_18)); refine blk_put (cs := #[.int .u64 t343, .int .u64 0]) ?_ 1 _ rfl; (with_reducible repeat (first | apply bN_18 | apply bD_18 | apply bA_18)); refine blk_put (cs := #[.int .u64 0, .int .u64 0]) ?_ 0 _ rfl; (with_reducible repeat (first | apply bN_18 | apply bD_18 | apply bA_18)); exact BK345.out) hb); have n3_ := Aside0.mk (below_step (by repeat (first | (with_reducible first | exact HB.out | apply lA_18 | apply lN_18 | apply lD_18 | refine lS_18 ?_ GE336.out | refine lS_18 ?_ GE337.out | refine lS_18 ?_ GE345.out) | exact HB.out)) hb); clear BK336; clear BK337; clear BK345; clear HB; have BK336 := n0_; have BK337 := n1_; have BK345 := n2_; have HB := n3_; clear n0_ n1_ n2_ n3_; (try clear hb); (try clear hb2); (try clear hk); (try clear hi)))
                    have n0_ := Aside0.mk (blk_drew BK336.out)
                    have n1_ := Aside0.mk (blk_drew BK337.out)
                    have n2_ := Aside0.mk (blk_drew BK345.out)
                    have n3_ := Aside0.mk (below_drew1 HB.out)
                    clear BK336
                    clear BK337
                    clear BK345
                    clear HB
                    have BK336 := n0_
                    have BK337 := n1_
                    have BK345 := n2_
                    have HB := n3_
                    clear n0_ n1_ n2_ n3_
                    refine start_ (n := 74) (S := fun w' => w'.cell? ⟨gb345, 0, none⟩ = some (.int .u64 t343) ∧ w'.cell? ⟨gb345, 1, none⟩ = some (.int .u64 t344) ∧ w'.cell? ⟨gb337, 0, none⟩ = some (.int .u64 t340) ∧ w'.cell? ⟨gb337, 1, none⟩ = some (.int .u64 t341) ∧ w'.cell? ⟨gb336, 0, none⟩ = some (.int .u64 t338) ∧ w'.cell? ⟨gb336, 1, none⟩ = some (.int .u64 t339)) (ds := []) #[false, false, false, false, false, false, false, false, false, false, false, false, false, false, false, false, false, false, false, false, false, false, false, false, false, false, false, false, false, false, false, false, false, false, false, false, false, false, false, false, false, false, false, false, false, false, false, false, false, false, false, false, false, false, false, false, false, false, false, false, false, false, false, false, false, false, false, false, false, false, false, false, false, false] (by kernel_rfl) rfl rfl ⟨(blk_cell BK345.out 0).trans rfl, (blk_cell BK345.out 1).trans rfl, (blk_cell BK337.out 0).trans rfl, (blk_cell BK337.out 1).trans rfl, (blk_cell BK336.out 0).trans rfl, (blk_cell BK336.out 1).trans rfl⟩ (fun hHeld => ?_); refine with_tabW lockgatelaw03_TnumMore.tab6 lockgatelaw03_TnumMore.bits6 (fun HT_ HW_ => ?_)
                    generalize w66.drew = w67 at BK336 BK337 BK345 HB hHeld ⊢
                    refine take_ (i := 0) (N := some 29) (v := ?_) (a' := ?_) #[true, false, false, false, false, false, false, false, false, false, false, false, false, false, false, false, false, false, false, false, false, false, false, false, false, false, false, false, false, false, false, false, false, false, false, false, false, false, false, false, false, false, false, false, false, false, false, false, false, false, false, false, false, false, false, false, false, false, false, false, false, false, false, false, false, false, false, false, false, false, false, false, false, false] rfl rfl (take_ofW HT_.out HW_.out (by kernel_rfl)) (fun _ _ _ h => h) (Or.inl ⟨by rfl, ?_⟩) hHeld ?_ ?_
                    rotate_left
                    · rintro w' ⟨s0, s1, s2, s3, s4, s5⟩
                      go_simp
                      with_reducible rfl
                    rotate_left
                    · simp only [Act.put, List.setIfInBounds_toArray, List.set_cons_zero, List.set_cons_succ, i64_w, i32_w]
                      rfl
                    refine take_ (i := 1) (N := some 30) (v := ?_) (a' := ?_) #[true, true, false, false, false, false, false, false, false, false, false, false, false, false, false, false, false, false, false, false, false, false, false, false, false, false, false, false, false, false, false, false, false, false, false, false, false, false, false, false, false, false, false, false, false, false, false, false, false, false, false, false, false, false, false, false, false, false, false, false, false, false, false, false, false, false, false, false, false, false, false, false, false, false] rfl rfl (take_ofW HT_.out HW_.out (by kernel_rfl)) (fun _ _ _ h => h) (Or.inl ⟨by rfl, ?_⟩) hHeld ?_ ?_
                    rotate_left
                    · rintro w' ⟨s0, s1, s2, s3, s4, s5⟩
                      go_simp
                      with_reducible rfl
                    rotate_left
                    · simp only [Act.put, List.setIfInBounds_toArray, List.set_cons_zero, List.set_cons_succ, i64_w, i32_w]
                      rfl
                    refine take_ (i := 3) (N := some 32) (v := ?_) (a' := ?_) #[true, true, false, true, false, false, false, false, false, false, false, false, false, false, false, false, false, false, false, false, false, false, false, false, false, false, false, false, false, false, false, false, false, false, false, false, false, false, false, false, false, false, false, false, false, false, false, false, false, false, false, false, false, false, false, false, false, false, false, false, false, false, false, false, false, false, false, false, false, false, false, false, false, false] rfl rfl (take_ofW HT_.out HW_.out (by kernel_rfl)) (fun _ _ _ h => h) (Or.inl ⟨by rfl, ?_⟩) hHeld ?_ ?_
                    rotate_left
                    · rintro w' ⟨s0, s1, s2, s3, s4, s5⟩
                      go_simp
                      with_reducible rfl
                    rotate_left
                    · simp only [Act.put, List.setIfInBounds_toArray, List.set_cons_zero, List.set_cons_succ, i64_w, i32_w]
                      rfl
                    refine take_ (i := 4) (N := some 33) (v := ?_) (a' := ?_) #[true, true, false, true, true, false, false, false, false, false, false, false, false, false, false, false, false, false, false, false, false, false, false, false, false, false, false, false, false, false, false, false, false, false, false, false, false, false, false, false, false, false, false, false, false, false, false, false, false, false, false, false, false, false, false, false, false, false, false, false, false, false, false, false, false, false, false, false, false, false, false, false, false, false] rfl rfl (take_ofW HT_.out HW_.out (by kernel_rfl)) (fun _ _ _ h => h) (Or.inl ⟨by rfl, ?_⟩) hHeld ?_ ?_
                    rotate_left
                    · rintro w' ⟨s0, s1, s2, s3, s4, s5⟩
                      go_simp
                      with_reducible rfl
                    rotate_left
                    · simp only [Act.put, List.setIfInBounds_toArray, List.set_cons_zero, List.set_cons_succ, i64_w, i32_w]
                      rfl
                    refine one_ (i := 2) (N := some 31) #[true, true, true, true, true, false, false, false, false, false, false, false, false, false, false, false, false, false, false, false, false, false, false, false, false, false, false, false, false, false, false, false, false, false, false, false, false, false, false, false, false, false, false, false, false, false, false, false, false, false, false, false, false, false, false, false, false, false, false, false, false, false, false, false, false, false, false, false, false, false, false, false, false, false] rfl rfl (one_of HT_.out (by kernel_rfl)) (by decide) (fun K hK => ?_)
                    refine goes_ Try.func17 (by kernel_rfl) rfl #[.agg #[.int .u64 t343, .int .u64 t344], .agg #[.int .u64 t340, .int .u64 t341]] (by rfl) rfl rfl (by (try simp only [List.map_toArray, List.map_cons, List.map_nil]); first | done | rfl) ?_
                    with_reducible refine (tnum_Add.calls t343 t344 t340 t341 t347 t348 _ A12.out).mono ?_
                    rintro e w68 ⟨rfl, hb⟩
                    refine ⟨_, rfl, ?_⟩
                    have n0_ := Aside0.mk (blk_below (g := gb336) (o := .cells #[.int .u64 t338, .int .u64 t339] 24 (0, 0)) (by (with_reducible repeat (first | apply bN_18 | apply bD_18 | apply bA_18)); exact BK336.out) hb)
                    have n1_ := Aside0.mk (blk_below (g := gb337) (o := .cells #[.int .u64 t340, .int .u64 t341] 24 (0, 0)) (by (with_reducible repeat (first | apply bN_18 | apply bD_18 | apply bA_18)); exact BK337.out) hb)
                    have n2_ := Aside0.mk (blk_below (g := gb345) (o := .cells #[.int .u64 t343, .int .u64 t344] 24 (0, 0)) (by (with_reducible repeat (first | apply bN_18 | apply bD_18 | apply bA_18)); exact BK345.out) hb)
                    have n3_ := Aside0.mk (below_step (by repeat (first | (with_reducible first | exact HB.out | apply lA_18 | apply lN_18 | apply lD_18 | refine lS_18 ?_ GE336.out | refine lS_18 ?_ GE337.out | refine lS_18 ?_ GE345.out) | exact HB.out)) hb)
                    clear BK336
                    clear BK337
                    clear BK345
                    clear HB
                    have BK336 := n0_
                    have BK337 := n1_
                    have BK345 := n2_
                    have HB := n3_
                    clear n0_ n1_ n2_ n3_
                    (try clear hb)
                    (try clear hb2)
                    (try clear hk)
                    (try clear hi)
                    refine hK.out _ _ ⟨(blk_cell BK345.out 0).trans rfl, (blk_cell BK345.out 1).trans rfl, (blk_cell BK337.out 0).trans rfl, (blk_cell BK337.out 1).trans rfl, (blk_cell BK336.out 0).trans rfl, (blk_cell BK336.out 1).trans rfl⟩ (fun hHeld => ?_)
                    clear hK K
                    refine norm_ (a' := ?_) ?_ ?_
                    rotate_left
                    · show Act.put _ (some 31) _ = _
                      simp only [Act.put, List.setIfInBounds_toArray, List.set_cons_zero, List.set_cons_succ, i64_w, i32_w]
                      rfl
                    refine one_ (i := 5) (N := some 34) #[true, true, true, true, true, true, false, false, false, false, false, false, false, false, false, false, false, false, false, false, false, false, false, false, false, false, false, false, false, false, false, false, false, false, false, false, false, false, false, false, false, false, false, false, false, false, false, false, false, false, false, false, false, false, false, false, false, false, false, false, false, false, false, false, false, false, false, false, false, false, false, false, false, false] rfl rfl (one_of HT_.out (by kernel_rfl)) (by decide) (fun K hK => ?_)
                    refine goes_ Try.func17 (by kernel_rfl) rfl #[.agg #[.int .u64 t338, .int .u64 t339], .agg #[.int .u64 t340, .int .u64 t341]] (by rfl) rfl rfl (by (try simp only [List.map_toArray, List.map_cons, List.map_nil]); first | done | rfl) ?_
                    with_reducible refine (tnum_Add.calls t338 t339 t340 t341 t349 t350 _ A13.out).mono ?_
                    rintro e w69 ⟨rfl, hb⟩
                    refine ⟨_, rfl, ?_⟩
                    have n0_ := Aside0.mk (blk_below (g := gb336) (o := .cells #[.int .u64 t338, .int .u64 t339] 24 (0, 0)) (by (with_reducible repeat (first | apply bN_18 | apply bD_18 | apply bA_18)); exact BK336.out) hb)
                    have n1_ := Aside0.mk (blk_below (g := gb337) (o := .cells #[.int .u64 t340, .int .u64 t341] 24 (0, 0)) (by (with_reducible repeat (first | apply bN_18 | apply bD_18 | apply bA_18)); exact BK337.out) hb)
                    have n2_ := Aside0.mk (blk_below (g := gb345) (o := .cells #[.int .u64 t343, .int .u64 t344] 24 (0, 0)) (by (with_reducible repeat (first | apply bN_18 | apply bD_18 | apply bA_18)); exact BK345.out) hb)
                    have n3_ := Aside0.mk (below_step (by repeat (first | (with_reducible first | exact HB.out | apply lA_18 | apply lN_18 | apply lD_18 | refine lS_18 ?_ GE336.out | refine lS_18 ?_ GE337.out | refine lS_18 ?_ GE345.out) | exact HB.out)) hb)
                    clear BK336
                    clear BK337
                    clear BK345
                    clear HB
                    have BK336 := n0_
                    have BK337 := n1_
                    have BK345 := n2_
                    have HB := n3_
                    clear n0_ n1_ n2_ n3_
                    (try clear hb)
                    (try clear hb2)
                    (try clear hk)
                    (try clear hi)
                    refine hK.out _ _ ⟨(blk_cell BK345.out 0).trans rfl, (blk_cell BK345.out 1).trans rfl, (blk_cell BK337.out 0).trans rfl, (blk_cell BK337.out 1).trans rfl, (blk_cell BK336.out 0).trans rfl, (blk_cell BK336.out 1).trans rfl⟩ (fun hHeld => ?_)
                    clear hK K
                    refine norm_ (a' := ?_) ?_ ?_
                    rotate_left
                    · show Act.put _ (some 34) _ = _
                      simp only [Act.put, List.setIfInBounds_toArray, List.set_cons_zero, List.set_cons_succ, i64_w, i32_w]
                      rfl
                    refine one_ (i := 6) (N := some 35) #[true, true, true, true, true, true, true, false, false, false, false, false, false, false, false, false, false, false, false, false, false, false, false, false, false, false, false, false, false, false, false, false, false, false, false, false, false, false, false, false, false, false, false, false, false, false, false, false, false, false, false, false, false, false, false, false, false, false, false, false, false, false, false, false, false, false, false, false, false, false, false, false, false, false] rfl rfl (one_of HT_.out (by kernel_rfl)) (by decide) (fun K hK => ?_)
                    refine goes_ Try.func13 (by kernel_rfl) rfl #[.agg #[.int .u64 t347, .int .u64 t348], .agg #[.int .u64 t349, .int .u64 t350]] (by rfl) rfl rfl (by (try simp only [List.map_toArray, List.map_cons, List.map_nil]); first | done | rfl) ?_
                    with_reducible refine (tnum_Within.calls t347 t348 t349 t350 true _ A14.out).mono ?_
                    rintro e w70 ⟨rfl, hb⟩
                    refine ⟨_, rfl, ?_⟩
                    have n0_ := Aside0.mk (blk_below (g := gb336) (o := .cells #[.int .u64 t338, .int .u64 t339] 24 (0, 0)) (by (with_reducible repeat (first | apply bN_18 | apply bD_18 | apply bA_18)); exact BK336.out) hb)
                    have n1_ := Aside0.mk (blk_below (g := gb337) (o := .cells #[.int .u64 t340, .int .u64 t341] 24 (0, 0)) (by (with_reducible repeat (first | apply bN_18 | apply bD_18 | apply bA_18)); exact BK337.out) hb)
                    have n2_ := Aside0.mk (blk_below (g := gb345) (o := .cells #[.int .u64 t343, .int .u64 t344] 24 (0, 0)) (by (with_reducible repeat (first | apply bN_18 | apply bD_18 | apply bA_18)); exact BK345.out) hb)
                    have n3_ := Aside0.mk (below_step (by repeat (first | (with_reducible first | exact HB.out | apply lA_18 | apply lN_18 | apply lD_18 | refine lS_18 ?_ GE336.out | refine lS_18 ?_ GE337.out | refine lS_18 ?_ GE345.out) | exact HB.out)) hb)
                    clear BK336
                    clear BK337
                    clear BK345
                    clear HB
                    have BK336 := n0_
                    have BK337 := n1_
                    have BK345 := n2_
                    have HB := n3_
                    clear n0_ n1_ n2_ n3_
                    (try clear hb)
                    (try clear hb2)
                    (try clear hk)
                    (try clear hi)
                    refine hK.out _ _ ⟨(blk_cell BK345.out 0).trans rfl, (blk_cell BK345.out 1).trans rfl, (blk_cell BK337.out 0).trans rfl, (blk_cell BK337.out 1).trans rfl, (blk_cell BK336.out 0).trans rfl, (blk_cell BK336.out 1).trans rfl⟩ (fun hHeld => ?_)
                    clear hK K
                    refine norm_ (a' := ?_) ?_ ?_
                    rotate_left
                    · show Act.put _ (some 35) _ = _
                      simp only [Act.put, List.setIfInBounds_toArray, List.set_cons_zero, List.set_cons_succ, i64_w, i32_w]
                      rfl
                    refine pure_ (i := 7) (N := some 36) (v := ?_) (a' := ?_) #[true, true, true, true, true, true, true, true, false, false, false, false, false, false, false, false, false, false, false, false, false, false, false, false, false, false, false, false, false, false, false, false, false, false, false, false, false, false, false, false, false, false, false, false, false, false, false, false, false, false, false, false, false, false, false, false, false, false, false, false, false, false, false, false, false, false, false, false, false, false, false, false, false, false] rfl rfl (any_of HT_.out (by kernel_rfl)) (fun _ _ _ h => h) (Or.inl ⟨by rfl, ?_⟩) ?_ ?_
                    rotate_left
                    · intro w'
                      go_simp
                      with_reducible rfl
                    rotate_left
                    · simp only [Act.put, List.setIfInBounds_toArray, List.set_cons_zero, List.set_cons_succ, i64_w, i32_w]
                      rfl
                    refine take_ (i := 8) (N := some 37) (v := ?_) (a' := ?_) #[true, true, true, true, true, true, true, true, true, false, false, false, false, false, false, false, false, false, false, false, false, false, false, false, false, false, false, false, false, false, false, false, false, false, false, false, false, false, false, false, false, false, false, false, false, false, false, false, false, false, false, false, false, false, false, false, false, false, false, false, false, false, false, false, false, false, false, false, false, false, false, false, false, false] rfl rfl (take_ofW HT_.out HW_.out (by kernel_rfl)) (fun _ _ _ h => h) (Or.inl ⟨by rfl, ?_⟩) hHeld ?_ ?_
                    rotate_left
                    · rintro w' ⟨s0, s1, s2, s3, s4, s5⟩
                      go_simp
                      with_reducible rfl
                    rotate_left
                    · simp only [Act.put, List.setIfInBounds_toArray, List.set_cons_zero, List.set_cons_succ, i64_w, i32_w]
                      rfl
                    refine take_ (i := 9) (N := some 38) (v := ?_) (a' := ?_) #[true, true, true, true, true, true, true, true, true, true, false, false, false, false, false, false, false, false, false, false, false, false, false, false, false, false, false, false, false, false, false, false, false, false, false, false, false, false, false, false, false, false, false, false, false, false, false, false, false, false, false, false, false, false, false, false, false, false, false, false, false, false, false, false, false, false, false, false, false, false, false, false, false, false] rfl rfl (take_ofW HT_.out HW_.out (by kernel_rfl)) (fun _ _ _ h => h) (Or.inl ⟨by rfl, ?_⟩) hHeld ?_ ?_
                    rotate_left
                    · rintro w' ⟨s0, s1, s2, s3, s4, s5⟩
                      go_simp
                      with_reducible rfl
                    rotate_left
                    · simp only [Act.put, List.setIfInBounds_toArray, List.set_cons_zero, List.set_cons_succ, i64_w, i32_w]
                      rfl
                    refine take_ (i := 11) (N := some 40) (v := ?_) (a' := ?_) #[true, true, true, true, true, true, true, true, true, true, false, true, false, false, false, false, false, false, false, false, false, false, false, false, false, false, false, false, false, false, false, false, false, false, false, false, false, false, false, false, false, false, false, false, false, false, false, false, false, false, false, false, false, false, false, false, false, false, false, false, false, false, false, false, false, false, false, false, false, false, false, false, false, false] rfl rfl (take_ofW HT_.out HW_.out (by kernel_rfl)) (fun _ _ _ h => h) (Or.inl ⟨by rfl, ?_⟩) hHeld ?_ ?_
                    rotate_left
                    · rintro w' ⟨s0, s1, s2, s3, s4, s5⟩
                      go_simp
                      with_reducible rfl
                    rotate_left
                    · simp only [Act.put, List.setIfInBounds_toArray, List.set_cons_zero, List.set_cons_succ, i64_w, i32_w]
                      rfl
                    refine take_ (i := 12) (N := some 41) (v := ?_) (a' := ?_) #[true, true, true, true, true, true, true, true, true, true, false, true, true, false, false, false, false, false, false, false, false, false, false, false, false, false, false, false, false, false, false, false, false, false, false, false, false, false, false, false, false, false, false, false, false, false, false, false, false, false, false, false, false, false, false, false, false, false, false, false, false, false, false, false, false, false, false, false, false, false, false, false, false, false] rfl rfl (take_ofW HT_.out HW_.out (by kernel_rfl)) (fun _ _ _ h => h) (Or.inl ⟨by rfl, ?_⟩) hHeld ?_ ?_
                    rotate_left
                    · rintro w' ⟨s0, s1, s2, s3, s4, s5⟩
                      go_simp
                      with_reducible rfl
                    rotate_left
                    · simp only [Act.put, List.setIfInBounds_toArray, List.set_cons_zero, List.set_cons_succ, i64_w, i32_w]
                      rfl
                    refine one_ (i := 10) (N := some 39) #[true, true, true, true, true, true, true, true, true, true, true, true, true, false, false, false, false, false, false, false, false, false, false, false, false, false, false, false, false, false, false, false, false, false, false, false, false, false, false, false, false, false, false, false, false, false, false, false, false, false, false, false, false, false, false, false, false, false, false, false, false, false, false, false, false, false, false, false, false, false, false, false, false, false] rfl rfl (one_of HT_.out (by kernel_rfl)) (by decide) (fun K hK => ?_)
                    refine goes_ Try.func19 (by kernel_rfl) rfl #[.agg #[.int .u64 t343, .int .u64 t344], .agg #[.int .u64 t340, .int .u64 t341]] (by rfl) rfl rfl (by (try simp only [List.map_toArray, List.map_cons, List.map_nil]); first | done | rfl) ?_
                    with_reducible refine (tnum_Sub.calls t343 t344 t340 t341 t352 t353 _ A16.out).mono ?_
                    rintro e w71 ⟨rfl, hb⟩
                    refine ⟨_, rfl, ?_⟩
                    have n0_ := Aside0.mk (blk_below (g := gb336) (o := .cells #[.int .u64 t338, .int .u64 t339] 24 (0, 0)) (by (with_reducible repeat (first | apply bN_18 | apply bD_18 | apply bA_18)); exact BK336.out) hb)
                    have n1_ := Aside0.mk (blk_below (g := gb337) (o := .cells #[.int .u64 t340, .int .u64 t341] 24 (0, 0)) (by (with_reducible repeat (first | apply bN_18 | apply bD_18 | apply bA_18)); exact BK337.out) hb)
                    have n2_ := Aside0.mk (blk_below (g := gb345) (o := .cells #[.int .u64 t343, .int .u64 t344] 24 (0, 0)) (by (with_reducible repeat (first | apply bN_18 | apply bD_18 | apply bA_18)); exact BK345.out) hb)
                    have n3_ := Aside0.mk (below_step (by repeat (first | (with_reducible first | exact HB.out | apply lA_18 | apply lN_18 | apply lD_18 | refine lS_18 ?_ GE336.out | refine lS_18 ?_ GE337.out | refine lS_18 ?_ GE345.out) | exact HB.out)) hb)
                    clear BK336
                    clear BK337
                    clear BK345
                    clear HB
                    have BK336 := n0_
                    have BK337 := n1_
                    have BK345 := n2_
                    have HB := n3_
                    clear n0_ n1_ n2_ n3_
                    (try clear hb)
                    (try clear hb2)
                    (try clear hk)
                    (try clear hi)
                    refine hK.out _ _ ⟨(blk_cell BK345.out 0).trans rfl, (blk_cell BK345.out 1).trans rfl, (blk_cell BK337.out 0).trans rfl, (blk_cell BK337.out 1).trans rfl, (blk_cell BK336.out 0).trans rfl, (blk_cell BK336.out 1).trans rfl⟩ (fun hHeld => ?_)
                    clear hK K
                    refine norm_ (a' := ?_) ?_ ?_
                    rotate_left
                    · show Act.put _ (some 39) _ = _
                      simp only [Act.put, List.setIfInBounds_toArray, List.set_cons_zero, List.set_cons_succ, i64_w, i32_w]
                      rfl
                    refine one_ (i := 13) (N := some 42) #[true, true, true, true, true, true, true, true, true, true, true, true, true, true, false, false, false, false, false, false, false, false, false, false, false, false, false, false, false, false, false, false, false, false, false, false, false, false, false, false, false, false, false, false, false, false, false, false, false, false, false, false, false, false, false, false, false, false, false, false, false, false, false, false, false, false, false, false, false, false, false, false, false, false] rfl rfl (one_of HT_.out (by kernel_rfl)) (by decide) (fun K hK => ?_)
                    refine goes_ Try.func19 (by kernel_rfl) rfl #[.agg #[.int .u64 t338, .int .u64 t339], .agg #[.int .u64 t340, .int .u64 t341]] (by rfl) rfl rfl (by (try simp only [List.map_toArray, List.map_cons, List.map_nil]); first | done | rfl) ?_
                    with_reducible refine (tnum_Sub.calls t338 t339 t340 t341 t354 t355 _ A17.out).mono ?_
                    rintro e w72 ⟨rfl, hb⟩
                    refine ⟨_, rfl, ?_⟩
                    have n0_ := Aside0.mk (blk_below (g := gb336) (o := .cells #[.int .u64 t338, .int .u64 t339] 24 (0, 0)) (by (with_reducible repeat (first | apply bN_18 | apply bD_18 | apply bA_18)); exact BK336.out) hb)
                    have n1_ := Aside0.mk (blk_below (g := gb337) (o := .cells #[.int .u64 t340, .int .u64 t341] 24 (0, 0)) (by (with_reducible repeat (first | apply bN_18 | apply bD_18 | apply bA_18)); exact BK337.out) hb)
                    have n2_ := Aside0.mk (blk_below (g := gb345) (o := .cells #[.int .u64 t343, .int .u64 t344] 24 (0, 0)) (by (with_reducible repeat (first | apply bN_18 | apply bD_18 | apply bA_18)); exact BK345.out) hb)
                    have n3_ := Aside0.mk (below_step (by repeat (first | (with_reducible first | exact HB.out | apply lA_18 | apply lN_18 | apply lD_18 | refine lS_18 ?_ GE336.out | refine lS_18 ?_ GE337.out | refine lS_18 ?_ GE345.out) | exact HB.out)) hb)
                    clear BK336
                    clear BK337
                    clear BK345
                    clear HB
                    have BK336 := n0_
                    have BK337 := n1_
                    have BK345 := n2_
                    have HB := n3_
                    clear n0_ n1_ n2_ n3_
                    (try clear hb)
                    (try clear hb2)
                    (try clear hk)
                    (try clear hi)
                    refine hK.out _ _ ⟨(blk_cell BK345.out 0).trans rfl, (blk_cell BK345.out 1).trans rfl, (blk_cell BK337.out 0).trans rfl, (blk_cell BK337.out 1).trans rfl, (blk_cell BK336.out 0).trans rfl, (blk_cell BK336.out 1).trans rfl⟩ (fun hHeld => ?_)
                    clear hK K
                    refine norm_ (a' := ?_) ?_ ?_
                    rotate_left
                    · show Act.put _ (some 42) _ = _
                      simp only [Act.put, List.setIfInBounds_toArray, List.set_cons_zero, List.set_cons_succ, i64_w, i32_w]
                      rfl
                    refine one_ (i := 14) (N := some 43) #[true, true, true, true, true, true, true, true, true, true, true, true, true, true, true, false, false, false, false, false, false, false, false, false, false, false, false, false, false, false, false, false, false, false, false, false, false, false, false, false, false, false, false, false, false, false, false, false, false, false, false, false, false, false, false, false, false, false, false, false, false, false, false, false, false, false, false, false, false, false, false, false, false, false] rfl rfl (one_of HT_.out (by kernel_rfl)) (by decide) (fun K hK => ?_)
                    refine goes_ Try.func13 (by kernel_rfl) rfl #[.agg #[.int .u64 t352, .int .u64 t353], .agg #[.int .u64 t354, .int .u64 t355]] (by rfl) rfl rfl (by (try simp only [List.map_toArray, List.map_cons, List.map_nil]); first | done | rfl) ?_
                    with_reducible refine (tnum_Within.calls t352 t353 t354 t355 true _ A18.out).mono ?_
                    rintro e w73 ⟨rfl, hb⟩
                    refine ⟨_, rfl, ?_⟩
                    have n0_ := Aside0.mk (blk_below (g := gb336) (o := .cells #[.int .u64 t338, .int .u64 t339] 24 (0, 0)) (by (with_reducible repeat (first | apply bN_18 | apply bD_18 | apply bA_18)); exact BK336.out) hb)
                    have n1_ := Aside0.mk (blk_below (g := gb337) (o := .cells #[.int .u64 t340, .int .u64 t341] 24 (0, 0)) (by (with_reducible repeat (first | apply bN_18 | apply bD_18 | apply bA_18)); exact BK337.out) hb)
                    have n2_ := Aside0.mk (blk_below (g := gb345) (o := .cells #[.int .u64 t343, .int .u64 t344] 24 (0, 0)) (by (with_reducible repeat (first | apply bN_18 | apply bD_18 | apply bA_18)); exact BK345.out) hb)
                    have n3_ := Aside0.mk (below_step (by repeat (first | (with_reducible first | exact HB.out | apply lA_18 | apply lN_18 | apply lD_18 | refine lS_18 ?_ GE336.out | refine lS_18 ?_ GE337.out | refine lS_18 ?_ GE345.out) | exact HB.out)) hb)
                    clear BK336
                    clear BK337
                    clear BK345
                    clear HB
                    have BK336 := n0_
                    have BK337 := n1_
                    have BK345 := n2_
                    have HB := n3_
                    clear n0_ n1_ n2_ n3_
                    (try clear hb)
                    (try clear hb2)
                    (try clear hk)
                    (try clear hi)
                    refine hK.out _ _ ⟨(blk_cell BK345.out 0).trans rfl, (blk_cell BK345.out 1).trans rfl, (blk_cell BK337.out 0).trans rfl, (blk_cell BK337.out 1).trans rfl, (blk_cell BK336.out 0).trans rfl, (blk_cell BK336.out 1).trans rfl⟩ (fun hHeld => ?_)
                    clear hK K
                    refine norm_ (a' := ?_) ?_ ?_
                    rotate_left
                    · show Act.put _ (some 43) _ = _
                      simp only [Act.put, List.setIfInBounds_toArray, List.set_cons_zero, List.set_cons_succ, i64_w, i32_w]
                      rfl
                    refine pure_ (i := 15) (N := some 44) (v := ?_) (a' := ?_) #[true, true, true, true, true, true, true, true, true, true, true, true, true, true, true, true, false, false, false, false, false, false, false, false, false, false, false, false, false, false, false, false, false, false, false, false, false, false, false, false, false, false, false, false, false, false, false, false, false, false, false, false, false, false, false, false, false, false, false, false, false, false, false, false, false, false, false, false, false, false, false, false, false, false] rfl rfl (any_of HT_.out (by kernel_rfl)) (fun _ _ _ h => h) (Or.inl ⟨by rfl, ?_⟩) ?_ ?_
                    rotate_left
                    · intro w'
                      go_simp
                      with_reducible rfl
                    rotate_left
                    · simp only [Act.put, List.setIfInBounds_toArray, List.set_cons_zero, List.set_cons_succ, i64_w, i32_w]
                      rfl
                    refine pure_ (i := 16) (N := some 45) (v := ?_) (a' := ?_) #[true, true, true, true, true, true, true, true, true, true, true, true, true, true, true, true, true, false, false, false, false, false, false, false, false, false, false, false, false, false, false, false, false, false, false, false, false, false, false, false, false, false, false, false, false, false, false, false, false, false, false, false, false, false, false, false, false, false, false, false, false, false, false, false, false, false, false, false, false, false, false, false, false, false] rfl rfl (any_of HT_.out (by kernel_rfl)) (fun _ _ _ h => h) (Or.inl ⟨by rfl, ?_⟩) ?_ ?_
                    rotate_left
                    · intro w'
                      go_simp
                      with_reducible rfl
                    rotate_left
                    · simp only [Act.put, List.setIfInBounds_toArray, List.set_cons_zero, List.set_cons_succ, i64_w, i32_w]
                      rfl
                    refine take_ (i := 17) (N := some 46) (v := ?_) (a' := ?_) #[true, true, true, true, true, true, true, true, true, true, true, true, true, true, true, true, true, true, false, false, false, false, false, false, false, false, false, false, false, false, false, false, false, false, false, false, false, false, false, false, false, false, false, false, false, false, false, false, false, false, false, false, false, false, false, false, false, false, false, false, false, false, false, false, false, false, false, false, false, false, false, false, false, false] rfl rfl (take_ofW HT_.out HW_.out (by kernel_rfl)) (fun _ _ _ h => h) (Or.inl ⟨by rfl, ?_⟩) hHeld ?_ ?_
                    rotate_left
                    · rintro w' ⟨s0, s1, s2, s3, s4, s5⟩
                      go_simp
                      with_reducible rfl
                    rotate_left
                    · simp only [Act.put, List.setIfInBounds_toArray, List.set_cons_zero, List.set_cons_succ, i64_w, i32_w]
                      rfl
                    refine take_ (i := 18) (N := some 47) (v := ?_) (a' := ?_) #[true, true, true, true, true, true, true, true, true, true, true, true, true, true, true, true, true, true, true, false, false, false, false, false, false, false, false, false, false, false, false, false, false, false, false, false, false, false, false, false, false, false, false, false, false, false, false, false, false, false, false, false, false, false, false, false, false, false, false, false, false, false, false, false, false, false, false, false, false, false, false, false, false, false] rfl rfl (take_ofW HT_.out HW_.out (by kernel_rfl)) (fun _ _ _ h => h) (Or.inl ⟨by rfl, ?_⟩) hHeld ?_ ?_
                    rotate_left
                    · rintro w' ⟨s0, s1, s2, s3, s4, s5⟩
                      go_simp
                      with_reducible rfl
                    rotate_left
                    · simp only [Act.put, List.setIfInBounds_toArray, List.set_cons_zero, List.set_cons_succ, i64_w, i32_w]
                      rfl
                    refine take_ (i := 20) (N := some 49) (v := ?_) (a' := ?_) #[true, true, true, true, true, true, true, true, true, true, true, true, true, true, true, true, true, true, true, false, true, false, false, false, false, false, false, false, false, false, false, false, false, false, false, false, false, false, false, false, false, false, false, false, false, false, false, false, false, false, false, false, false, false, false, false, false, false, false, false, false, false, false, false, false, false, false, false, false, false, false, false, false, false] rfl rfl (take_ofW HT_.out HW_.out (by kernel_rfl)) (fun _ _ _ h => h) (Or.inl ⟨by rfl, ?_⟩) hHeld ?_ ?_
                    rotate_left
                    · rintro w' ⟨s0, s1, s2, s3, s4, s5⟩
                      go_simp
                      with_reducible rfl
                    rotate_left
                    · simp only [Act.put, List.setIfInBounds_toArray, List.set_cons_zero, List.set_cons_succ, i64_w, i32_w]
                      rfl
                    refine take_ (i := 21) (N := some 50) (v := ?_) (a' := ?_) #[true, true, true, true, true, true, true, true, true, true, true, true, true, true, true, true, true, true, true, false, true, true, false, false, false, false, false, false, false, false, false, false, false, false, false, false, false, false, false, false, false, false, false, false, false, false, false, false, false, false, false, false, false, false, false, false, false, false, false, false, false, false, false, false, false, false, false, false, false, false, false, false, false, false] rfl rfl (take_ofW HT_.out HW_.out (by kernel_rfl)) (fun _ _ _ h => h) (Or.inl ⟨by rfl, ?_⟩) hHeld ?_ ?_
                    rotate_left
                    · rintro w' ⟨s0, s1, s2, s3, s4, s5⟩
                      go_simp
                      with_reducible rfl
                    rotate_left
                    · simp only [Act.put, List.setIfInBounds_toArray, List.set_cons_zero, List.set_cons_succ, i64_w, i32_w]
                      rfl
                    refine one_ (i := 19) (N := some 48) #[true, true, true, true, true, true, true, true, true, true, true, true, true, true, true, true, true, true, true, true, true, true, false, false, false, false, false, false, false, false, false, false, false, false, false, false, false, false, false, false, false, false, false, false, false, false, false, false, false, false, false, false, false, false, false, false, false, false, false, false, false, false, false, false, false, false, false, false, false, false, false, false, false, false] rfl rfl (one_of HT_.out (by kernel_rfl)) (by decide) (fun K hK => ?_)
                    refine goes_ Try.func19 (by kernel_rfl) rfl #[.agg #[.int .u64 t340, .int .u64 t341], .agg #[.int .u64 t343, .int .u64 t344]] (by rfl) rfl rfl (by (try simp only [List.map_toArray, List.map_cons, List.map_nil]); first | done | rfl) ?_
                    with_reducible refine (tnum_Sub.calls t340 t341 t343 t344 t357 t358 _ A20.out).mono ?_
                    rintro e w74 ⟨rfl, hb⟩
                    refine ⟨_, rfl, ?_⟩
                    have n0_ := Aside0.mk (blk_below (g := gb336) (o := .cells #[.int .u64 t338, .int .u64 t339] 24 (0, 0)) (by (with_reducible repeat (first | apply bN_18 | apply bD_18 | apply bA_18)); exact BK336.out) hb)
                    have n1_ := Aside0.mk (blk_below (g := gb337) (o := .cells #[.int .u64 t340, .int .u64 t341] 24 (0, 0)) (by (with_reducible repeat (first | apply bN_18 | apply bD_18 | apply bA_18)); exact BK337.out) hb)
                    have n2_ := Aside0.mk (blk_below (g := gb345) (o := .cells #[.int .u64 t343, .int .u64 t344] 24 (0, 0)) (by (with_reducible repeat (first | apply bN_18 | apply bD_18 | apply bA_18)); exact BK345.out) hb)
                    have n3_ := Aside0.mk (below_step (by repeat (first | (with_reducible first | exact HB.out | apply lA_18 | apply lN_18 | apply lD_18 | refine lS_18 ?_ GE336.out | refine lS_18 ?_ GE337.out | refine lS_18 ?_ GE345.out) | exact HB.out)) hb)
                    clear BK336
                    clear BK337
                    clear BK345
                    clear HB
                    have BK336 := n0_
                    have BK337 := n1_
                    have BK345 := n2_
                    have HB := n3_
                    clear n0_ n1_ n2_ n3_
                    (try clear hb)
                    (try clear hb2)
                    (try clear hk)
                    (try clear hi)
                    refine hK.out _ _ ⟨(blk_cell BK345.out 0).trans rfl, (blk_cell BK345.out 1).trans rfl, (blk_cell BK337.out 0).trans rfl, (blk_cell BK337.out 1).trans rfl, (blk_cell BK336.out 0).trans rfl, (blk_cell BK336.out 1).trans rfl⟩ (fun hHeld => ?_)
                    clear hK K
                    refine norm_ (a' := ?_) ?_ ?_
                    rotate_left
                    · show Act.put _ (some 48) _ = _
                      simp only [Act.put, List.setIfInBounds_toArray, List.set_cons_zero, List.set_cons_succ, i64_w, i32_w]
                      rfl
                    refine one_ (i := 22) (N := some 51) #[true, true, true, true, true, true, true, true, true, true, true, true, true, true, true, true, true, true, true, true, true, true, true, false, false, false, false, false, false, false, false, false, false, false, false, false, false, false, false, false, false, false, false, false, false, false, false, false, false, false, false, false, false, false, false, false, false, false, false, false, false, false, false, false, false, false, false, false, false, false, false, false, false, false] rfl rfl (one_of HT_.out (by kernel_rfl)) (by decide) (fun K hK => ?_)
                    refine goes_ Try.func19 (by kernel_rfl) rfl #[.agg #[.int .u64 t340, .int .u64 t341], .agg #[.int .u64 t338, .int .u64 t339]] (by rfl) rfl rfl (by (try simp only [List.map_toArray, List.map_cons, List.map_nil]); first | done | rfl) ?_
                    with_reducible refine (tnum_Sub.calls t340 t341 t338 t339 t359 t360 _ A21.out).mono ?_
                    rintro e w75 ⟨rfl, hb⟩
                    refine ⟨_, rfl, ?_⟩
                    have n0_ := Aside0.mk (blk_below (g := gb336) (o := .cells #[.int .u64 t338, .int .u64 t339] 24 (0, 0)) (by (with_reducible repeat (first | apply bN_18 | apply bD_18 | apply bA_18)); exact BK336.out) hb)
                    have n1_ := Aside0.mk (blk_below (g := gb337) (o := .cells #[.int .u64 t340, .int .u64 t341] 24 (0, 0)) (by (with_reducible repeat (first | apply bN_18 | apply bD_18 | apply bA_18)); exact BK337.out) hb)
                    have n2_ := Aside0.mk (blk_below (g := gb345) (o := .cells #[.int .u64 t343, .int .u64 t344] 24 (0, 0)) (by (with_reducible repeat (first | apply bN_18 | apply bD_18 | apply bA_18)); exact BK345.out) hb)
                    have n3_ := Aside0.mk (below_step (by repeat (first | (with_reducible first | exact HB.out | apply lA_18 | apply lN_18 | apply lD_18 | refine lS_18 ?_ GE336.out | refine lS_18 ?_ GE337.out | refine lS_18 ?_ GE345.out) | exact HB.out)) hb)
                    clear BK336
                    clear BK337
                    clear BK345
                    clear HB
                    have BK336 := n0_
                    have BK337 := n1_
                    have BK345 := n2_
                    have HB := n3_
                    clear n0_ n1_ n2_ n3_
                    (try clear hb)
                    (try clear hb2)
                    (try clear hk)
                    (try clear hi)
                    refine hK.out _ _ ⟨(blk_cell BK345.out 0).trans rfl, (blk_cell BK345.out 1).trans rfl, (blk_cell BK337.out 0).trans rfl, (blk_cell BK337.out 1).trans rfl, (blk_cell BK336.out 0).trans rfl, (blk_cell BK336.out 1).trans rfl⟩ (fun hHeld => ?_)
                    clear hK K
                    refine norm_ (a' := ?_) ?_ ?_
                    rotate_left
                    · show Act.put _ (some 51) _ = _
                      simp only [Act.put, List.setIfInBounds_toArray, List.set_cons_zero, List.set_cons_succ, i64_w, i32_w]
                      rfl
                    refine one_ (i := 23) (N := some 52) #[true, true, true, true, true, true, true, true, true, true, true, true, true, true, true, true, true, true, true, true, true, true, true, true, false, false, false, false, false, false, false, false, false, false, false, false, false, false, false, false, false, false, false, false, false, false, false, false, false, false, false, false, false, false, false, false, false, false, false, false, false, false, false, false, false, false, false, false, false, false, false, false, false, false] rfl rfl (one_of HT_.out (by kernel_rfl)) (by decide) (fun K hK => ?_)
                    refine goes_ Try.func13 (by kernel_rfl) rfl #[.agg #[.int .u64 t357, .int .u64 t358], .agg #[.int .u64 t359, .int .u64 t360]] (by rfl) rfl rfl (by (try simp only [List.map_toArray, List.map_cons, List.map_nil]); first | done | rfl) ?_
                    with_reducible refine (tnum_Within.calls t357 t358 t359 t360 true _ A22.out).mono ?_
                    rintro e w76 ⟨rfl, hb⟩
                    refine ⟨_, rfl, ?_⟩
                    have n0_ := Aside0.mk (blk_below (g := gb336) (o := .cells #[.int .u64 t338, .int .u64 t339] 24 (0, 0)) (by (with_reducible repeat (first | apply bN_18 | apply bD_18 | apply bA_18)); exact BK336.out) hb)
                    have n1_ := Aside0.mk (blk_below (g := gb337) (o := .cells #[.int .u64 t340, .int .u64 t341] 24 (0, 0)) (by (with_reducible repeat (first | apply bN_18 | apply bD_18 | apply bA_18)); exact BK337.out) hb)
                    have n2_ := Aside0.mk (blk_below (g := gb345) (o := .cells #[.int .u64 t343, .int .u64 t344] 24 (0, 0)) (by (with_reducible repeat (first | apply bN_18 | apply bD_18 | apply bA_18)); exact BK345.out) hb)
                    have n3_ := Aside0.mk (below_step (by repeat (first | (with_reducible first | exact HB.out | apply lA_18 | apply lN_18 | apply lD_18 | refine lS_18 ?_ GE336.out | refine lS_18 ?_ GE337.out | refine lS_18 ?_ GE345.out) | exact HB.out)) hb)
                    clear BK336
                    clear BK337
                    clear BK345
                    clear HB
                    have BK336 := n0_
                    have BK337 := n1_
                    have BK345 := n2_
                    have HB := n3_
                    clear n0_ n1_ n2_ n3_
                    (try clear hb)
                    (try clear hb2)
                    (try clear hk)
                    (try clear hi)
                    refine hK.out _ _ ⟨(blk_cell BK345.out 0).trans rfl, (blk_cell BK345.out 1).trans rfl, (blk_cell BK337.out 0).trans rfl, (blk_cell BK337.out 1).trans rfl, (blk_cell BK336.out 0).trans rfl, (blk_cell BK336.out 1).trans rfl⟩ (fun hHeld => ?_)
                    clear hK K
                    refine norm_ (a' := ?_) ?_ ?_
                    rotate_left
                    · show Act.put _ (some 52) _ = _
                      simp only [Act.put, List.setIfInBounds_toArray, List.set_cons_zero, List.set_cons_succ, i64_w, i32_w]
                      rfl
                    refine pure_ (i := 24) (N := some 53) (v := ?_) (a' := ?_) #[true, true, true, true, true, true, true, true, true, true, true, true, true, true, true, true, true, true, true, true, true, true, true, true, true, false, false, false, false, false, false, false, false, false, false, false, false, false, false, false, false, false, false, false, false, false, false, false, false, false, false, false, false, false, false, false, false, false, false, false, false, false, false, false, false, false, false, false, false, false, false, false, false, false] rfl rfl (any_of HT_.out (by kernel_rfl)) (fun _ _ _ h => h) (Or.inl ⟨by rfl, ?_⟩) ?_ ?_
                    rotate_left
                    · intro w'
                      go_simp
                      with_reducible rfl
                    rotate_left
                    · simp only [Act.put, List.setIfInBounds_toArray, List.set_cons_zero, List.set_cons_succ, i64_w, i32_w]
                      rfl
                    refine pure_ (i := 25) (N := some 54) (v := ?_) (a' := ?_) #[true, true, true, true, true, true, true, true, true, true, true, true, true, true, true, true, true, true, true, true, true, true, true, true, true, true, false, false, false, false, false, false, false, false, false, false, false, false, false, false, false, false, false, false, false, false, false, false, false, false, false, false, false, false, false, false, false, false, false, false, false, false, false, false, false, false, false, false, false, false, false, false, false, false] rfl rfl (any_of HT_.out (by kernel_rfl)) (fun _ _ _ h => h) (Or.inl ⟨by rfl, ?_⟩) ?_ ?_
                    rotate_left
                    · intro w'
                      go_simp
                      with_reducible rfl
                    rotate_left
                    · simp only [Act.put, List.setIfInBounds_toArray, List.set_cons_zero, List.set_cons_succ, i64_w, i32_w]
                      rfl
                    refine take_ (i := 26) (N := some 55) (v := ?_) (a' := ?_) #[true, true, true, true, true, true, true, true, true, true, true, true, true, true, true, true, true, true, true, true, true, true, true, true, true, true, true, false, false, false, false, false, false, false, false, false, false, false, false, false, false, false, false, false, false, false, false, false, false, false, false, false, false, false, false, false, false, false, false, false, false, false, false, false, false, false, false, false, false, false, false, false, false, false] rfl rfl (take_ofW HT_.out HW_.out (by kernel_rfl)) (fun _ _ _ h => h) (Or.inl ⟨by rfl, ?_⟩) hHeld ?_ ?_
                    rotate_left
                    · rintro w' ⟨s0, s1, s2, s3, s4, s5⟩
                      go_simp
                      with_reducible rfl
                    rotate_left
                    · simp only [Act.put, List.setIfInBounds_toArray, List.set_cons_zero, List.set_cons_succ, i64_w, i32_w]
                      rfl
                    refine take_ (i := 27) (N := some 56) (v := ?_) (a' := ?_) #[true, true, true, true, true, true, true, true, true, true, true, true, true, true, true, true, true, true, true, true, true, true, true, true, true, true, true, true, false, false, false, false, false, false, false, false, false, false, false, false, false, false, false, false, false, false, false, false, false, false, false, false, false, false, false, false, false, false, false, false, false, false, false, false, false, false, false, false, false, false, false, false, false, false] rfl rfl (take_ofW HT_.out HW_.out (by kernel_rfl)) (fun _ _ _ h => h) (Or.inl ⟨by rfl, ?_⟩) hHeld ?_ ?_
                    rotate_left
                    · rintro w' ⟨s0, s1, s2, s3, s4, s5⟩
                      go_simp
                      with_reducible rfl
                    rotate_left
                    · simp only [Act.put, List.setIfInBounds_toArray, List.set_cons_zero, List.set_cons_succ, i64_w, i32_w]
                      rfl
                    refine take_ (i := 29) (N := some 58) (v := ?_) (a' := ?_) #[true, true, true, true, true, true, true, true, true, true, true, true, true, true, true, true, true, true, true, true, true, true, true, true, true, true, true, true, false, true, false, false, false, false, false, false, false, false, false, false, false, false, false, false, false, false, false, false, false, false, false, false, false, false, false, false, false, false, false, false, false, false, false, false, false, false, false, false, false, false, false, false, false, false] rfl rfl (take_ofW HT_.out HW_.out (by kernel_rfl)) (fun _ _ _ h => h) (Or.inl ⟨by rfl, ?_⟩) hHeld ?_ ?_
                    rotate_left
                    · rintro w' ⟨s0, s1, s2, s3, s4, s5⟩
                      go_simp
                      with_reducible rfl
                    rotate_left
                    · simp only [Act.put, List.setIfInBounds_toArray, List.set_cons_zero, List.set_cons_succ, i64_w, i32_w]
                      rfl
                    refine take_ (i := 30) (N := some 59) (v := ?_) (a' := ?_) #[true, true, true, true, true, true, true, true, true, true, true, true, true, true, true, true, true, true, true, true, true, true, true, true, true, true, true, true, false, true, true, false, false, false, false, false, false, false, false, false, false, false, false, false, false, false, false, false, false, false, false, false, false, false, false, false, false, false, false, false, false, false, false, false, false, false, false, false, false, false, false, false, false, false] rfl rfl (take_ofW HT_.out HW_.out (by kernel_rfl)) (fun _ _ _ h => h) (Or.inl ⟨by rfl, ?_⟩) hHeld ?_ ?_
                    rotate_left
                    · rintro w' ⟨s0, s1, s2, s3, s4, s5⟩
                      go_simp
                      with_reducible rfl
                    rotate_left
                    · simp only [Act.put, List.setIfInBounds_toArray, List.set_cons_zero, List.set_cons_succ, i64_w, i32_w]
                      rfl
                    refine one_ (i := 28) (N := some 57) #[true, true, true, true, true, true, true, true, true, true, true, true, true, true, true, true, true, true, true, true, true, true, true, true, true, true, true, true, true, true, true, false, false, false, false, false, false, false, false, false, false, false, false, false, false, false, false, false, false, false, false, false, false, false, false, false, false, false, false, false, false, false, false, false, false, false, false, false, false, false, false, false, false, false] rfl rfl (one_of HT_.out (by kernel_rfl)) (by decide) (fun K hK => ?_)
                    refine goes_ Try.func33 (by kernel_rfl) rfl #[.agg #[.int .u64 t343, .int .u64 t344], .agg #[.int .u64 t340, .int .u64 t341]] (by rfl) rfl rfl (by (try simp only [List.map_toArray, List.map_cons, List.map_nil]); first | done | rfl) ?_
                    with_reducible refine (tnum_And.calls t343 t344 t340 t341 t362 t363 _ A24.out).mono ?_
                    rintro e w77 ⟨rfl, hb⟩
                    refine ⟨_, rfl, ?_⟩
                    have n0_ := Aside0.mk (blk_below (g := gb336) (o := .cells #[.int .u64 t338, .int .u64 t339] 24 (0, 0)) (by (with_reducible repeat (first | apply bN_18 | apply bD_18 | apply bA_18)); exact BK336.out) hb)
                    have n1_ := Aside0.mk (blk_below (g := gb337) (o := .cells #[.int .u64 t340, .int .u64 t341] 24 (0, 0)) (by (with_reducible repeat (first | apply bN_18 | apply bD_18 | apply bA_18)); exact BK337.out) hb)
                    have n2_ := Aside0.mk (blk_below (g := gb345) (o := .cells #[.int .u64 t343, .int .u64 t344] 24 (0, 0)) (by (with_reducible repeat (first | apply bN_18 | apply bD_18 | apply bA_18)); exact BK345.out) hb)
                    have n3_ := Aside0.mk (below_step (by repeat (first | (with_reducible first | exact HB.out | apply lA_18 | apply lN_18 | apply lD_18 | refine lS_18 ?_ GE336.out | refine lS_18 ?_ GE337.out | refine lS_18 ?_ GE345.out) | exact HB.out)) hb)
                    clear BK336
                    clear BK337
                    clear BK345
                    clear HB
                    have BK336 := n0_
                    have BK337 := n1_
                    have BK345 := n2_
                    have HB := n3_
                    clear n0_ n1_ n2_ n3_
                    (try clear hb)
                    (try clear hb2)
                    (try clear hk)
                    (try clear hi)
                    refine hK.out _ _ ⟨(blk_cell BK345.out 0).trans rfl, (blk_cell BK345.out 1).trans rfl, (blk_cell BK337.out 0).trans rfl, (blk_cell BK337.out 1).trans rfl, (blk_cell BK336.out 0).trans rfl, (blk_cell BK336.out 1).trans rfl⟩ (fun hHeld => ?_)
                    clear hK K
                    refine norm_ (a' := ?_) ?_ ?_
                    rotate_left
                    · show Act.put _ (some 57) _ = _
                      simp only [Act.put, List.setIfInBounds_toArray, List.set_cons_zero, List.set_cons_succ, i64_w, i32_w]
                      rfl
                    refine one_ (i := 31) (N := some 60) #[true, true, true, true, true, true, true, true, true, true, true, true, true, true, true, true, true, true, true, true, true, true, true, true, true, true, true, true, true, true, true, true, false, false, false, false, false, false, false, false, false, false, false, false, false, false, false, false, false, false, false, false, false, false, false, false, false, false, false, false, false, false, false, false, false, false, false, false, false, false, false, false, false, false] rfl rfl (one_of HT_.out (by kernel_rfl)) (by decide) (fun K hK => ?_)
                    refine goes_ Try.func33 (by kernel_rfl) rfl #[.agg #[.int .u64 t338, .int .u64 t339], .agg #[.int .u64 t340, .int .u64 t341]] (by rfl) rfl rfl (by (try simp only [List.map_toArray, List.map_cons, List.map_nil]); first | done | rfl) ?_
                    with_reducible refine (tnum_And.calls t338 t339 t340 t341 t364 t365 _ A25.out).mono ?_
                    rintro e w78 ⟨rfl, hb⟩
                    refine ⟨_, rfl, ?_⟩
                    have n0_ := Aside0.mk (blk_below (g := gb336) (o := .cells #[.int .u64 t338, .int .u64 t339] 24 (0, 0)) (by (with_reducible repeat (first | apply bN_18 | apply bD_18 | apply bA_18)); exact BK336.out) hb)
                    have n1_ := Aside0.mk (blk_below (g := gb337) (o := .cells #[.int .u64 t340, .int .u64 t341] 24 (0, 0)) (by (with_reducible repeat (first | apply bN_18 | apply bD_18 | apply bA_18)); exact BK337.out) hb)
                    have n2_ := Aside0.mk (blk_below (g := gb345) (o := .cells #[.int .u64 t343, .int .u64 t344] 24 (0, 0)) (by (with_reducible repeat (first | apply bN_18 | apply bD_18 | apply bA_18)); exact BK345.out) hb)
                    have n3_ := Aside0.mk (below_step (by repeat (first | (with_reducible first | exact HB.out | apply lA_18 | apply lN_18 | apply lD_18 | refine lS_18 ?_ GE336.out | refine lS_18 ?_ GE337.out | refine lS_18 ?_ GE345.out) | exact HB.out)) hb)
                    clear BK336
                    clear BK337
                    clear BK345
                    clear HB
                    have BK336 := n0_
                    have BK337 := n1_
                    have BK345 := n2_
                    have HB := n3_
                    clear n0_ n1_ n2_ n3_
                    (try clear hb)
                    (try clear hb2)
                    (try clear hk)
                    (try clear hi)
                    refine hK.out _ _ ⟨(blk_cell BK345.out 0).trans rfl, (blk_cell BK345.out 1).trans rfl, (blk_cell BK337.out 0).trans rfl, (blk_cell BK337.out 1).trans rfl, (blk_cell BK336.out 0).trans rfl, (blk_cell BK336.out 1).trans rfl⟩ (fun hHeld => ?_)
                    clear hK K
                    refine norm_ (a' := ?_) ?_ ?_
                    rotate_left
                    · show Act.put _ (some 60) _ = _
                      simp only [Act.put, List.setIfInBounds_toArray, List.set_cons_zero, List.set_cons_succ, i64_w, i32_w]
                      rfl
                    refine one_ (i := 32) (N := some 61) #[true, true, true, true, true, true, true, true, true, true, true, true, true, true, true, true, true, true, true, true, true, true, true, true, true, true, true, true, true, true, true, true, true, false, false, false, false, false, false, false, false, false, false, false, false, false, false, false, false, false, false, false, false, false, false, false, false, false, false, false, false, false, false, false, false, false, false, false, false, false, false, false, false, false] rfl rfl (one_of HT_.out (by kernel_rfl)) (by decide) (fun K hK => ?_)
                    refine goes_ Try.func13 (by kernel_rfl) rfl #[.agg #[.int .u64 t362, .int .u64 t363], .agg #[.int .u64 t364, .int .u64 t365]] (by rfl) rfl rfl (by (try simp only [List.map_toArray, List.map_cons, List.map_nil]); first | done | rfl) ?_
                    with_reducible refine (tnum_Within.calls t362 t363 t364 t365 true _ A26.out).mono ?_
                    rintro e w79 ⟨rfl, hb⟩
                    refine ⟨_, rfl, ?_⟩
                    have n0_ := Aside0.mk (blk_below (g := gb336) (o := .cells #[.int .u64 t338, .int .u64 t339] 24 (0, 0)) (by (with_reducible repeat (first | apply bN_18 | apply bD_18 | apply bA_18)); exact BK336.out) hb)
                    have n1_ := Aside0.mk (blk_below (g := gb337) (o := .cells #[.int .u64 t340, .int .u64 t341] 24 (0, 0)) (by (with_reducible repeat (first | apply bN_18 | apply bD_18 | apply bA_18)); exact BK337.out) hb)
                    have n2_ := Aside0.mk (blk_below (g := gb345) (o := .cells #[.int .u64 t343, .int .u64 t344] 24 (0, 0)) (by (with_reducible repeat (first | apply bN_18 | apply bD_18 | apply bA_18)); exact BK345.out) hb)
                    have n3_ := Aside0.mk (below_step (by repeat (first | (with_reducible first | exact HB.out | apply lA_18 | apply lN_18 | apply lD_18 | refine lS_18 ?_ GE336.out | refine lS_18 ?_ GE337.out | refine lS_18 ?_ GE345.out) | exact HB.out)) hb)
                    clear BK336
                    clear BK337
                    clear BK345
                    clear HB
                    have BK336 := n0_
                    have BK337 := n1_
                    have BK345 := n2_
                    have HB := n3_
                    clear n0_ n1_ n2_ n3_
                    (try clear hb)
                    (try clear hb2)
                    (try clear hk)
                    (try clear hi)
                    refine hK.out _ _ ⟨(blk_cell BK345.out 0).trans rfl, (blk_cell BK345.out 1).trans rfl, (blk_cell BK337.out 0).trans rfl, (blk_cell BK337.out 1).trans rfl, (blk_cell BK336.out 0).trans rfl, (blk_cell BK336.out 1).trans rfl⟩ (fun hHeld => ?_)
                    clear hK K
                    refine norm_ (a' := ?_) ?_ ?_
                    rotate_left
                    · show Act.put _ (some 61) _ = _
                      simp only [Act.put, List.setIfInBounds_toArray, List.set_cons_zero, List.set_cons_succ, i64_w, i32_w]
                      rfl
                    refine pure_ (i := 33) (N := some 62) (v := ?_) (a' := ?_) #[true, true, true, true, true, true, true, true, true, true, true, true, true, true, true, true, true, true, true, true, true, true, true, true, true, true, true, true, true, true, true, true, true, true, false, false, false, false, false, false, false, false, false, false, false, false, false, false, false, false, false, false, false, false, false, false, false, false, false, false, false, false, false, false, false, false, false, false, false, false, false, false, false, false] rfl rfl (any_of HT_.out (by kernel_rfl)) (fun _ _ _ h => h) (Or.inl ⟨by rfl, ?_⟩) ?_ ?_
                    rotate_left
                    · intro w'
                      go_simp
                      with_reducible rfl
                    rotate_left
                    · simp only [Act.put, List.setIfInBounds_toArray, List.set_cons_zero, List.set_cons_succ, i64_w, i32_w]
                      rfl
                    refine pure_ (i := 34) (N := some 63) (v := ?_) (a' := ?_) #[true, true, true, true, true, true, true, true, true, true, true, true, true, true, true, true, true, true, true, true, true, true, true, true, true, true, true, true, true, true, true, true, true, true, true, false, false, false, false, false, false, false, false, false, false, false, false, false, false, false, false, false, false, false, false, false, false, false, false, false, false, false, false, false, false, false, false, false, false, false, false, false, false, false] rfl rfl (any_of HT_.out (by kernel_rfl)) (fun _ _ _ h => h) (Or.inl ⟨by rfl, ?_⟩) ?_ ?_
                    rotate_left
                    · intro w'
                      go_simp
                      with_reducible rfl
                    rotate_left
                    · simp only [Act.put, List.setIfInBounds_toArray, List.set_cons_zero, List.set_cons_succ, i64_w, i32_w]
                      rfl
                    refine take_ (i := 35) (N := some 64) (v := ?_) (a' := ?_) #[true, true, true, true, true, true, true, true, true, true, true, true, true, true, true, true, true, true, true, true, true, true, true, true, true, true, true, true, true, true, true, true, true, true, true, true, false, false, false, false, false, false, false, false, false, false, false, false, false, false, false, false, false, false, false, false, false, false, false, false, false, false, false, false, false, false, false, false, false, false, false, false, false, false] rfl rfl (take_ofW HT_.out HW_.out (by kernel_rfl)) (fun _ _ _ h => h) (Or.inl ⟨by rfl, ?_⟩) hHeld ?_ ?_
                    rotate_left
                    · rintro w' ⟨s0, s1, s2, s3, s4, s5⟩
                      go_simp
                      with_reducible rfl
                    rotate_left
                    · simp only [Act.put, List.setIfInBounds_toArray, List.set_cons_zero, List.set_cons_succ, i64_w, i32_w]
                      rfl
                    refine take_ (i := 36) (N := some 65) (v := ?_) (a' := ?_) #[true, true, true, true, true, true, true, true, true, true, true, true, true, true, true, true, true, true, true, true, true, true, true, true, true, true, true, true, true, true, true, true, true, true, true, true, true, false, false, false, false, false, false, false, false, false, false, false, false, false, false, false, false, false, false, false, false, false, false, false, false, false, false, false, false, false, false, false, false, false, false, false, false, false] rfl rfl (take_ofW HT_.out HW_.out (by kernel_rfl)) (fun _ _ _ h => h) (Or.inl ⟨by rfl, ?_⟩) hHeld ?_ ?_
                    rotate_left
                    · rintro w' ⟨s0, s1, s2, s3, s4, s5⟩
                      go_simp
                      with_reducible rfl
                    rotate_left
                    · simp only [Act.put, List.setIfInBounds_toArray, List.set_cons_zero, List.set_cons_succ, i64_w, i32_w]
                      rfl
                    refine take_ (i := 38) (N := some 67) (v := ?_) (a' := ?_) #[true, true, true, true, true, true, true, true, true, true, true, true, true, true, true, true, true, true, true, true, true, true, true, true, true, true, true, true, true, true, true, true, true, true, true, true, true, false, true, false, false, false, false, false, false, false, false, false, false, false, false, false, false, false, false, false, false, false, false, false, false, false, false, false, false, false, false, false, false, false, false, false, false, false] rfl rfl (take_ofW HT_.out HW_.out (by kernel_rfl)) (fun _ _ _ h => h) (Or.inl ⟨by rfl, ?_⟩) hHeld ?_ ?_
                    rotate_left
                    · rintro w' ⟨s0, s1, s2, s3, s4, s5⟩
                      go_simp
                      with_reducible rfl
                    rotate_left
                    · simp only [Act.put, List.setIfInBounds_toArray, List.set_cons_zero, List.set_cons_succ, i64_w, i32_w]
                      rfl
                    refine take_ (i := 39) (N := some 68) (v := ?_) (a' := ?_) #[true, true, true, true, true, true, true, true, true, true, true, true, true, true, true, true, true, true, true, true, true, true, true, true, true, true, true, true, true, true, true, true, true, true, true, true, true, false, true, true, false, false, false, false, false, false, false, false, false, false, false, false, false, false, false, false, false, false, false, false, false, false, false, false, false, false, false, false, false, false, false, false, false, false] rfl rfl (take_ofW HT_.out HW_.out (by kernel_rfl)) (fun _ _ _ h => h) (Or.inl ⟨by rfl, ?_⟩) hHeld ?_ ?_
                    rotate_left
                    · rintro w' ⟨s0, s1, s2, s3, s4, s5⟩
                      go_simp
                      with_reducible rfl
                    rotate_left
                    · simp only [Act.put, List.setIfInBounds_toArray, List.set_cons_zero, List.set_cons_succ, i64_w, i32_w]
                      rfl
                    refine one_ (i := 37) (N := some 66) #[true, true, true, true, true, true, true, true, true, true, true, true, true, true, true, true, true, true, true, true, true, true, true, true, true, true, true, true, true, true, true, true, true, true, true, true, true, true, true, true, false, false, false, false, false, false, false, false, false, false, false, false, false, false, false, false, false, false, false, false, false, false, false, false, false, false, false, false, false, false, false, false, false, false] rfl rfl (one_of HT_.out (by kernel_rfl)) (by decide) (fun K hK => ?_)
                    refine goes_ Try.func34 (by kernel_rfl) rfl #[.agg #[.int .u64 t343, .int .u64 t344], .agg #[.int .u64 t340, .int .u64 t341]] (by rfl) rfl rfl (by (try simp only [List.map_toArray, List.map_cons, List.map_nil]); first | done | rfl) ?_
                    with_reducible refine (tnum_Or.calls t343 t344 t340 t341 t367 t368 _ A28.out).mono ?_
                    rintro e w80 ⟨rfl, hb⟩
                    refine ⟨_, rfl, ?_⟩
                    have n0_ := Aside0.mk (blk_below (g := gb336) (o := .cells #[.int .u64 t338, .int .u64 t339] 24 (0, 0)) (by (with_reducible repeat (first | apply bN_18 | apply bD_18 | apply bA_18)); exact BK336.out) hb)
                    have n1_ := Aside0.mk (blk_below (g := gb337) (o := .cells #[.int .u64 t340, .int .u64 t341] 24 (0, 0)) (by (with_reducible repeat (first | apply bN_18 | apply bD_18 | apply bA_18)); exact BK337.out) hb)
                    have n2_ := Aside0.mk (blk_below (g := gb345) (o := .cells #[.int .u64 t343, .int .u64 t344] 24 (0, 0)) (by (with_reducible repeat (first | apply bN_18 | apply bD_18 | apply bA_18)); exact BK345.out) hb)
                    have n3_ := Aside0.mk (below_step (by repeat (first | (with_reducible first | exact HB.out | apply lA_18 | apply lN_18 | apply lD_18 | refine lS_18 ?_ GE336.out | refine lS_18 ?_ GE337.out | refine lS_18 ?_ GE345.out) | exact HB.out)) hb)
                    clear BK336
                    clear BK337
                    clear BK345
                    clear HB
                    have BK336 := n0_
                    have BK337 := n1_
                    have BK345 := n2_
                    have HB := n3_
                    clear n0_ n1_ n2_ n3_
                    (try clear hb)
                    (try clear hb2)
                    (try clear hk)
                    (try clear hi)
                    refine hK.out _ _ ⟨(blk_cell BK345.out 0).trans rfl, (blk_cell BK345.out 1).trans rfl, (blk_cell BK337.out 0).trans rfl, (blk_cell BK337.out 1).trans rfl, (blk_cell BK336.out 0).trans rfl, (blk_cell BK336.out 1).trans rfl⟩ (fun hHeld => ?_)
                    clear hK K
                    refine norm_ (a' := ?_) ?_ ?_
                    rotate_left
                    · show Act.put _ (some 66) _ = _
                      simp only [Act.put, List.setIfInBounds_toArray, List.set_cons_zero, List.set_cons_succ, i64_w, i32_w]
                      rfl
                    refine one_ (i := 40) (N := some 69) #[true, true, true, true, true, true, true, true, true, true, true, true, true, true, true, true, true, true, true, true, true, true, true, true, true, true, true, true, true, true, true, true, true, true, true, true, true, true, true, true, true, false, false, false, false, false, false, false, false, false, false, false, false, false, false, false, false, false, false, false, false, false, false, false, false, false, false, false, false, false, false, false, false, false] rfl rfl (one_of HT_.out (by kernel_rfl)) (by decide) (fun K hK => ?_)
                    refine goes_ Try.func34 (by kernel_rfl) rfl #[.agg #[.int .u64 t338, .int .u64 t339], .agg #[.int .u64 t340, .int .u64 t341]] (by rfl) rfl rfl (by (try simp only [List.map_toArray, List.map_cons, List.map_nil]); first | done | rfl) ?_
                    with_reducible refine (tnum_Or.calls t338 t339 t340 t341 t369 t370 _ A29.out).mono ?_
                    rintro e w81 ⟨rfl, hb⟩
                    refine ⟨_, rfl, ?_⟩
                    have n0_ := Aside0.mk (blk_below (g := gb336) (o := .cells #[.int .u64 t338, .int .u64 t339] 24 (0, 0)) (by (with_reducible repeat (first | apply bN_18 | apply bD_18 | apply bA_18)); exact BK336.out) hb)
                    have n1_ := Aside0.mk (blk_below (g := gb337) (o := .cells #[.int .u64 t340, .int .u64 t341] 24 (0, 0)) (by (with_reducible repeat (first | apply bN_18 | apply bD_18 | apply bA_18)); exact BK337.out) hb)
                    have n2_ := Aside0.mk (blk_below (g := gb345) (o := .cells #[.int .u64 t343, .int .u64 t344] 24 (0, 0)) (by (with_reducible repeat (first | apply bN_18 | apply bD_18 | apply bA_18)); exact BK345.out) hb)
                    have n3_ := Aside0.mk (below_step (by repeat (first | (with_reducible first | exact HB.out | apply lA_18 | apply lN_18 | apply lD_18 | refine lS_18 ?_ GE336.out | refine lS_18 ?_ GE337.out | refine lS_18 ?_ GE345.out) | exact HB.out)) hb)
                    clear BK336
                    clear BK337
                    clear BK345
                    clear HB
                    have BK336 := n0_
                    have BK337 := n1_
                    have BK345 := n2_
                    have HB := n3_
                    clear n0_ n1_ n2_ n3_
                    (try clear hb)
                    (try clear hb2)
                    (try clear hk)
                    (try clear hi)
                    refine hK.out _ _ ⟨(blk_cell BK345.out 0).trans rfl, (blk_cell BK345.out 1).trans rfl, (blk_cell BK337.out 0).trans rfl, (blk_cell BK337.out 1).trans rfl, (blk_cell BK336.out 0).trans rfl, (blk_cell BK336.out 1).trans rfl⟩ (fun hHeld => ?_)
                    clear hK K
                    refine norm_ (a' := ?_) ?_ ?_
                    rotate_left
                    · show Act.put _ (some 69) _ = _
                      simp only [Act.put, List.setIfInBounds_toArray, List.set_cons_zero, List.set_cons_succ, i64_w, i32_w]
                      rfl
                    refine one_ (i := 41) (N := some 70) #[true, true, true, true, true, true, true, true, true, true, true, true, true, true, true, true, true, true, true, true, true, true, true, true, true, true, true, true, true, true, true, true, true, true, true, true, true, true, true, true, true, true, false, false, false, false, false, false, false, false, false, false, false, false, false, false, false, false, false, false, false, false, false, false, false, false, false, false, false, false, false, false, false, false] rfl rfl (one_of HT_.out (by kernel_rfl)) (by decide) (fun K hK => ?_)
                    refine goes_ Try.func13 (by kernel_rfl) rfl #[.agg #[.int .u64 t367, .int .u64 t368], .agg #[.int .u64 t369, .int .u64 t370]] (by rfl) rfl rfl (by (try simp only [List.map_toArray, List.map_cons, List.map_nil]); first | done | rfl) ?_
                    with_reducible refine (tnum_Within.calls t367 t368 t369 t370 true _ A30.out).mono ?_
                    rintro e w82 ⟨rfl, hb⟩
                    refine ⟨_, rfl, ?_⟩
                    have n0_ := Aside0.mk (blk_below (g := gb336) (o := .cells #[.int .u64 t338, .int .u64 t339] 24 (0, 0)) (by (with_reducible repeat (first | apply bN_18 | apply bD_18 | apply bA_18)); exact BK336.out) hb)
                    have n1_ := Aside0.mk (blk_below (g := gb337) (o := .cells #[.int .u64 t340, .int .u64 t341] 24 (0, 0)) (by (with_reducible repeat (first | apply bN_18 | apply bD_18 | apply bA_18)); exact BK337.out) hb)
                    have n2_ := Aside0.mk (blk_below (g := gb345) (o := .cells #[.int .u64 t343, .int .u64 t344] 24 (0, 0)) (by (with_reducible repeat (first | apply bN_18 | apply bD_18 | apply bA_18)); exact BK345.out) hb)
                    have n3_ := Aside0.mk (below_step (by repeat (first | (with_reducible first | exact HB.out | apply lA_18 | apply lN_18 | apply lD_18 | refine lS_18 ?_ GE336.out | refine lS_18 ?_ GE337.out | refine lS_18 ?_ GE345.out) | exact HB.out)) hb)
                    clear BK336
                    clear BK337
                    clear BK345
                    clear HB
                    have BK336 := n0_
                    have BK337 := n1_
                    have BK345 := n2_
                    have HB := n3_
                    clear n0_ n1_ n2_ n3_
                    (try clear hb)
                    (try clear hb2)
                    (try clear hk)
                    (try clear hi)
                    refine hK.out _ _ ⟨(blk_cell BK345.out 0).trans rfl, (blk_cell BK345.out 1).trans rfl, (blk_cell BK337.out 0).trans rfl, (blk_cell BK337.out 1).trans rfl, (blk_cell BK336.out 0).trans rfl, (blk_cell BK336.out 1).trans rfl⟩ (fun hHeld => ?_)
                    clear hK K
                    refine norm_ (a' := ?_) ?_ ?_
                    rotate_left
                    · show Act.put _ (some 70) _ = _
                      simp only [Act.put, List.setIfInBounds_toArray, List.set_cons_zero, List.set_cons_succ, i64_w, i32_w]
                      rfl
                    refine pure_ (i := 42) (N := some 71) (v := ?_) (a' := ?_) #[true, true, true, true, true, true, true, true, true, true, true, true, true, true, true, true, true, true, true, true, true, true, true, true, true, true, true, true, true, true, true, true, true, true, true, true, true, true, true, true, true, true, true, false, false, false, false, false, false, false, false, false, false, false, false, false, false, false, false, false, false, false, false, false, false, false, false, false, false, false, false, false, false, false] rfl rfl (any_of HT_.out (by kernel_rfl)) (fun _ _ _ h => h) (Or.inl ⟨by rfl, ?_⟩) ?_ ?_
                    rotate_left
                    · intro w'
                      go_simp
                      with_reducible rfl
                    rotate_left
                    · simp only [Act.put, List.setIfInBounds_toArray, List.set_cons_zero, List.set_cons_succ, i64_w, i32_w]
                      rfl
                    refine pure_ (i := 43) (N := some 72) (v := ?_) (a' := ?_) #[true, true, true, true, true, true, true, true, true, true, true, true, true, true, true, true, true, true, true, true, true, true, true, true, true, true, true, true, true, true, true, true, true, true, true, true, true, true, true, true, true, true, true, true, false, false, false, false, false, false, false, false, false, false, false, false, false, false, false, false, false, false, false, false, false, false, false, false, false, false, false, false, false, false] rfl rfl (any_of HT_.out (by kernel_rfl)) (fun _ _ _ h => h) (Or.inl ⟨by rfl, ?_⟩) ?_ ?_
                    rotate_left
                    · intro w'
                      go_simp
                      with_reducible rfl
                    rotate_left
                    · simp only [Act.put, List.setIfInBounds_toArray, List.set_cons_zero, List.set_cons_succ, i64_w, i32_w]
                      rfl
                    refine take_ (i := 44) (N := some 73) (v := ?_) (a' := ?_) #[true, true, true, true, true, true, true, true, true, true, true, true, true, true, true, true, true, true, true, true, true, true, true, true, true, true, true, true, true, true, true, true, true, true, true, true, true, true, true, true, true, true, true, true, true, false, false, false, false, false, false, false, false, false, false, false, false, false, false, false, false, false, false, false, false, false, false, false, false, false, false, false, false, false] rfl rfl (take_ofW HT_.out HW_.out (by kernel_rfl)) (fun _ _ _ h => h) (Or.inl ⟨by rfl, ?_⟩) hHeld ?_ ?_
                    rotate_left
                    · rintro w' ⟨s0, s1, s2, s3, s4, s5⟩
                      go_simp
                      with_reducible rfl
                    rotate_left
                    · simp only [Act.put, List.setIfInBounds_toArray, List.set_cons_zero, List.set_cons_succ, i64_w, i32_w]
                      rfl
                    refine take_ (i := 45) (N := some 74) (v := ?_) (a' := ?_) #[true, true, true, true, true, true, true, true, true, true, true, true, true, true, true, true, true, true, true, true, true, true, true, true, true, true, true, true, true, true, true, true, true, true, true, true, true, true, true, true, true, true, true, true, true, true, false, false, false, false, false, false, false, false, false, false, false, false, false, false, false, false, false, false, false, false, false, false, false, false, false, false, false, false] rfl rfl (take_ofW HT_.out HW_.out (by kernel_rfl)) (fun _ _ _ h => h) (Or.inl ⟨by rfl, ?_⟩) hHeld ?_ ?_
                    rotate_left
                    · rintro w' ⟨s0, s1, s2, s3, s4, s5⟩
                      go_simp
                      with_reducible rfl
                    rotate_left
                    · simp only [Act.put, List.setIfInBounds_toArray, List.set_cons_zero, List.set_cons_succ, i64_w, i32_w]
                      rfl
                    refine take_ (i := 47) (N := some 76) (v := ?_) (a' := ?_) #[true, true, true, true, true, true, true, true, true, true, true, true, true, true, true, true, true, true, true, true, true, true, true, true, true, true, true, true, true, true, true, true, true, true, true, true, true, true, true, true, true, true, true, true, true, true, false, true, false, false, false, false, false, false, false, false, false, false, false, false, false, false, false, false, false, false, false, false, false, false, false, false, false, false] rfl rfl (take_ofW HT_.out HW_.out (by kernel_rfl)) (fun _ _ _ h => h) (Or.inl ⟨by rfl, ?_⟩) hHeld ?_ ?_
                    rotate_left
                    · rintro w' ⟨s0, s1, s2, s3, s4, s5⟩
                      go_simp
                      with_reducible rfl
                    rotate_left
                    · simp only [Act.put, List.setIfInBounds_toArray, List.set_cons_zero, List.set_cons_succ, i64_w, i32_w]
                      rfl
                    refine take_ (i := 48) (N := some 77) (v := ?_) (a' := ?_) #[true, true, true, true, true, true, true, true, true, true, true, true, true, true, true, true, true, true, true, true, true, true, true, true, true, true, true, true, true, true, true, true, true, true, true, true, true, true, true, true, true, true, true, true, true, true, false, true, true, false, false, false, false, false, false, false, false, false, false, false, false, false, false, false, false, false, false, false, false, false, false, false, false, false] rfl rfl (take_ofW HT_.out HW_.out (by kernel_rfl)) (fun _ _ _ h => h) (Or.inl ⟨by rfl, ?_⟩) hHeld ?_ ?_
                    rotate_left
                    · rintro w' ⟨s0, s1, s2, s3, s4, s5⟩
                      go_simp
                      with_reducible rfl
                    rotate_left
                    · simp only [Act.put, List.setIfInBounds_toArray, List.set_cons_zero, List.set_cons_succ, i64_w, i32_w]
                      rfl
                    refine one_ (i := 46) (N := some 75) #[true, true, true, true, true, true, true, true, true, true, true, true, true, true, true, true, true, true, true, true, true, true, true, true, true, true, true, true, true, true, true, true, true, true, true, true, true, true, true, true, true, true, true, true, true, true, true, true, true, false, false, false, false, false, false, false, false, false, false, false, false, false, false, false, false, false, false, false, false, false, false, false, false, false] rfl rfl (one_of HT_.out (by kernel_rfl)) (by decide) (fun K hK => ?_)
                    refine goes_ Try.func35 (by kernel_rfl) rfl #[.agg #[.int .u64 t343, .int .u64 t344], .agg #[.int .u64 t340, .int .u64 t341]] (by rfl) rfl rfl (by (try simp only [List.map_toArray, List.map_cons, List.map_nil]); first | done | rfl) ?_
                    with_reducible refine (tnum_Xor.calls t343 t344 t340 t341 t372 t373 _ A32.out).mono ?_
                    rintro e w83 ⟨rfl, hb⟩
                    refine ⟨_, rfl, ?_⟩
                    have n0_ := Aside0.mk (blk_below (g := gb336) (o := .cells #[.int .u64 t338, .int .u64 t339] 24 (0, 0)) (by (with_reducible repeat (first | apply bN_18 | apply bD_18 | apply bA_18)); exact BK336.out) hb)
                    have n1_ := Aside0.mk (blk_below (g := gb337) (o := .cells #[.int .u64 t340, .int .u64 t341] 24 (0, 0)) (by (with_reducible repeat (first | apply bN_18 | apply bD_18 | apply bA_18)); exact BK337.out) hb)
                    have n2_ := Aside0.mk (blk_below (g := gb345) (o := .cells #[.int .u64 t343, .int .u64 t344] 24 (0, 0)) (by (with_reducible repeat (first | apply bN_18 | apply bD_18 | apply bA_18)); exact BK345.out) hb)
                    have n3_ := Aside0.mk (below_step (by repeat (first | (with_reducible first | exact HB.out | apply lA_18 | apply lN_18 | apply lD_18 | refine lS_18 ?_ GE336.out | refine lS_18 ?_ GE337.out | refine lS_18 ?_ GE345.out) | exact HB.out)) hb)
                    clear BK336
                    clear BK337
                    clear BK345
                    clear HB
                    have BK336 := n0_
                    have BK337 := n1_
                    have BK345 := n2_
                    have HB := n3_
                    clear n0_ n1_ n2_ n3_
                    (try clear hb)
                    (try clear hb2)
                    (try clear hk)
                    (try clear hi)
                    refine hK.out _ _ ⟨(blk_cell BK345.out 0).trans rfl, (blk_cell BK345.out 1).trans rfl, (blk_cell BK337.out 0).trans rfl, (blk_cell BK337.out 1).trans rfl, (blk_cell BK336.out 0).trans rfl, (blk_cell BK336.out 1).trans rfl⟩ (fun hHeld => ?_)
                    clear hK K
                    refine norm_ (a' := ?_) ?_ ?_
                    rotate_left
                    · show Act.put _ (some 75) _ = _
                      simp only [Act.put, List.setIfInBounds_toArray, List.set_cons_zero, List.set_cons_succ, i64_w, i32_w]
                      rfl
                    refine one_ (i := 49) (N := some 78) #[true, true, true, true, true, true, true, true, true, true, true, true, true, true, true, true, true, true, true, true, true, true, true, true, true, true, true, true, true, true, true, true, true, true, true, true, true, true, true, true, true, true, true, true, true, true, true, true, true, true, false, false, false, false, false, false, false, false, false, false, false, false, false, false, false, false, false, false, false, false, false, false, false, false] rfl rfl (one_of HT_.out (by kernel_rfl)) (by decide) (fun K hK => ?_)
                    refine goes_ Try.func35 (by kernel_rfl) rfl #[.agg #[.int .u64 t338, .int .u64 t339], .agg #[.int .u64 t340, .int .u64 t341]] (by rfl) rfl rfl (by (try simp only [List.map_toArray, List.map_cons, List.map_nil]); first | done | rfl) ?_
                    with_reducible refine (tnum_Xor.calls t338 t339 t340 t341 t374 t375 _ A33.out).mono ?_
                    rintro e w84 ⟨rfl, hb⟩
                    refine ⟨_, rfl, ?_⟩
                    have n0_ := Aside0.mk (blk_below (g := gb336) (o := .cells #[.int .u64 t338, .int .u64 t339] 24 (0, 0)) (by (with_reducible repeat (first | apply bN_18 | apply bD_18 | apply bA_18)); exact BK336.out) hb)
                    have n1_ := Aside0.mk (blk_below (g := gb337) (o := .cells #[.int .u64 t340, .int .u64 t341] 24 (0, 0)) (by (with_reducible repeat (first | apply bN_18 | apply bD_18 | apply bA_18)); exact BK337.out) hb)
                    have n2_ := Aside0.mk (blk_below (g := gb345) (o := .cells #[.int .u64 t343, .int .u64 t344] 24 (0, 0)) (by (with_reducible repeat (first | apply bN_18 | apply bD_18 | apply bA_18)); exact BK345.out) hb)
                    have n3_ := Aside0.mk (below_step (by repeat (first | (with_reducible first | exact HB.out | apply lA_18 | apply lN_18 | apply lD_18 | refine lS_18 ?_ GE336.out | refine lS_18 ?_ GE337.out | refine lS_18 ?_ GE345.out) | exact HB.out)) hb)
                    clear BK336
                    clear BK337
                    clear BK345
                    clear HB
                    have BK336 := n0_
                    have BK337 := n1_
                    have BK345 := n2_
                    have HB := n3_
                    clear n0_ n1_ n2_ n3_
                    (try clear hb)
                    (try clear hb2)
                    (try clear hk)
                    (try clear hi)
                    refine hK.out _ _ ⟨(blk_cell BK345.out 0).trans rfl, (blk_cell BK345.out 1).trans rfl, (blk_cell BK337.out 0).trans rfl, (blk_cell BK337.out 1).trans rfl, (blk_cell BK336.out 0).trans rfl, (blk_cell BK336.out 1).trans rfl⟩ (fun hHeld => ?_)
                    clear hK K
                    refine norm_ (a' := ?_) ?_ ?_
                    rotate_left
                    · show Act.put _ (some 78) _ = _
                      simp only [Act.put, List.setIfInBounds_toArray, List.set_cons_zero, List.set_cons_succ, i64_w, i32_w]
                      rfl
                    refine one_ (i := 50) (N := some 79) #[true, true, true, true, true, true, true, true, true, true, true, true, true, true, true, true, true, true, true, true, true, true, true, true, true, true, true, true, true, true, true, true, true, true, true, true, true, true, true, true, true, true, true, true, true, true, true, true, true, true, true, false, false, false, false, false, false, false, false, false, false, false, false, false, false, false, false, false, false, false, false, false, false, false] rfl rfl (one_of HT_.out (by kernel_rfl)) (by decide) (fun K hK => ?_)
                    refine goes_ Try.func13 (by kernel_rfl) rfl #[.agg #[.int .u64 t372, .int .u64 t373], .agg #[.int .u64 t374, .int .u64 t375]] (by rfl) rfl rfl (by (try simp only [List.map_toArray, List.map_cons, List.map_nil]); first | done | rfl) ?_
                    with_reducible refine (tnum_Within.calls t372 t373 t374 t375 true _ A34.out).mono ?_
                    rintro e w85 ⟨rfl, hb⟩
                    refine ⟨_, rfl, ?_⟩
                    have n0_ := Aside0.mk (blk_below (g := gb336) (o := .cells #[.int .u64 t338, .int .u64 t339] 24 (0, 0)) (by (with_reducible repeat (first | apply bN_18 | apply bD_18 | apply bA_18)); exact BK336.out) hb)
                    have n1_ := Aside0.mk (blk_below (g := gb337) (o := .cells #[.int .u64 t340, .int .u64 t341] 24 (0, 0)) (by (with_reducible repeat (first | apply bN_18 | apply bD_18 | apply bA_18)); exact BK337.out) hb)
                    have n2_ := Aside0.mk (blk_below (g := gb345) (o := .cells #[.int .u64 t343, .int .u64 t344] 24 (0, 0)) (by (with_reducible repeat (first | apply bN_18 | apply bD_18 | apply bA_18)); exact BK345.out) hb)
                    have n3_ := Aside0.mk (below_step (by repeat (first | (with_reducible first | exact HB.out | apply lA_18 | apply lN_18 | apply lD_18 | refine lS_18 ?_ GE336.out | refine lS_18 ?_ GE337.out | refine lS_18 ?_ GE345.out) | exact HB.out)) hb)
                    clear BK336
                    clear BK337
                    clear BK345
                    clear HB
                    have BK336 := n0_
                    have BK337 := n1_
                    have BK345 := n2_
                    have HB := n3_
                    clear n0_ n1_ n2_ n3_
                    (try clear hb)
                    (try clear hb2)
                    (try clear hk)
                    (try clear hi)
                    refine hK.out _ _ ⟨(blk_cell BK345.out 0).trans rfl, (blk_cell BK345.out 1).trans rfl, (blk_cell BK337.out 0).trans rfl, (blk_cell BK337.out 1).trans rfl, (blk_cell BK336.out 0).trans rfl, (blk_cell BK336.out 1).trans rfl⟩ (fun hHeld => ?_)
                    clear hK K
                    refine norm_ (a' := ?_) ?_ ?_
                    rotate_left
                    · show Act.put _ (some 79) _ = _
                      simp only [Act.put, List.setIfInBounds_toArray, List.set_cons_zero, List.set_cons_succ, i64_w, i32_w]
                      rfl
                    refine pure_ (i := 51) (N := some 80) (v := ?_) (a' := ?_) #[true, true, true, true, true, true, true, true, true, true, true, true, true, true, true, true, true, true, true, true, true, true, true, true, true, true, true, true, true, true, true, true, true, true, true, true, true, true, true, true, true, true, true, true, true, true, true, true, true, true, true, true, false, false, false, false, false, false, false, false, false, false, false, false, false, false, false, false, false, false, false, false, false, false] rfl rfl (any_of HT_.out (by kernel_rfl)) (fun _ _ _ h => h) (Or.inl ⟨by rfl, ?_⟩) ?_ ?_
                    rotate_left
                    · intro w'
                      go_simp
                      with_reducible rfl
                    rotate_left
                    · simp only [Act.put, List.setIfInBounds_toArray, List.set_cons_zero, List.set_cons_succ, i64_w, i32_w]
                      rfl
                    refine pure_ (i := 52) (N := some 81) (v := ?_) (a' := ?_) #[true, true, true, true, true, true, true, true, true, true, true, true, true, true, true, true, true, true, true, true, true, true, true, true, true, true, true, true, true, true, true, true, true, true, true, true, true, true, true, true, true, true, true, true, true, true, true, true, true, true, true, true, true, false, false, false, false, false, false, false, false, false, false, false, false, false, false, false, false, false, false, false, false, false] rfl rfl (any_of HT_.out (by kernel_rfl)) (fun _ _ _ h => h) (Or.inl ⟨by rfl, ?_⟩) ?_ ?_
                    rotate_left
                    · intro w'
                      go_simp
                      with_reducible rfl
                    rotate_left
                    · simp only [Act.put, List.setIfInBounds_toArray, List.set_cons_zero, List.set_cons_succ, i64_w, i32_w]
                      rfl
                    refine pure_ (i := 54) (N := some 83) (v := ?_) (a' := ?_) #[true, true, true, true, true, true, true, true, true, true, true, true, true, true, true, true, true, true, true, true, true, true, true, true, true, true, true, true, true, true, true, true, true, true, true, true, true, true, true, true, true, true, true, true, true, true, true, true, true, true, true, true, true, false, true, false, false, false, false, false, false, false, false, false, false, false, false, false, false, false, false, false, false, false] rfl rfl (any_of HT_.out (by kernel_rfl)) (fun _ _ _ h => h) (Or.inl ⟨by rfl, ?_⟩) ?_ ?_
                    rotate_left
                    · intro w'
                      go_simp
                      with_reducible rfl
                    rotate_left
                    · simp only [Act.put, List.setIfInBounds_toArray, List.set_cons_zero, List.set_cons_succ, i64_w, i32_w]
                      rfl
                    refine pure_ (i := 57) (N := some 86) (v := ?_) (a' := ?_) #[true, true, true, true, true, true, true, true, true, true, true, true, true, true, true, true, true, true, true, true, true, true, true, true, true, true, true, true, true, true, true, true, true, true, true, true, true, true, true, true, true, true, true, true, true, true, true, true, true, true, true, true, true, false, true, false, false, true, false, false, false, false, false, false, false, false, false, false, false, false, false, false, false, false] rfl rfl (any_of HT_.out (by kernel_rfl)) (fun _ _ _ h => h) (Or.inl ⟨by rfl, ?_⟩) ?_ ?_
                    rotate_left
                    · intro w'
                      go_simp
                      with_reducible rfl
                    rotate_left
                    · simp only [Act.put, List.setIfInBounds_toArray, List.set_cons_zero, List.set_cons_succ, i64_w, i32_w]
                      rfl
                    refine take_ (i := 53) (N := some 82) (v := ?_) (a' := ?_) #[true, true, true, true, true, true, true, true, true, true, true, true, true, true, true, true, true, true, true, true, true, true, true, true, true, true, true, true, true, true, true, true, true, true, true, true, true, true, true, true, true, true, true, true, true, true, true, true, true, true, true, true, true, true, true, false, false, true, false, false, false, false, false, false, false, false, false, false, false, false, false, false, false, false] rfl rfl (take_ofW HT_.out HW_.out (by kernel_rfl)) (fun _ _ _ h => h) (Or.inl ⟨by rfl, ?_⟩) hHeld ?_ ?_
                    rotate_left
                    · rintro w' ⟨s0, s1, s2, s3, s4, s5⟩
                      go_simp
                      with_reducible rfl
                    rotate_left
                    · simp only [Act.put, List.setIfInBounds_toArray, List.set_cons_zero, List.set_cons_succ, i64_w, i32_w]
                      rfl
                    refine take_ (i := 56) (N := some 85) (v := ?_) (a' := ?_) #[true, true, true, true, true, true, true, true, true, true, true, true, true, true, true, true, true, true, true, true, true, true, true, true, true, true, true, true, true, true, true, true, true, true, true, true, true, true, true, true, true, true, true, true, true, true, true, true, true, true, true, true, true, true, true, false, true, true, false, false, false, false, false, false, false, false, false, false, false, false, false, false, false, false] rfl rfl (take_ofW HT_.out HW_.out (by kernel_rfl)) (fun _ _ _ h => h) (Or.inl ⟨by rfl, ?_⟩) hHeld ?_ ?_
                    rotate_left
                    · rintro w' ⟨s0, s1, s2, s3, s4, s5⟩
                      go_simp
                      with_reducible rfl
                    rotate_left
                    · simp only [Act.put, List.setIfInBounds_toArray, List.set_cons_zero, List.set_cons_succ, i64_w, i32_w]
                      rfl
                    refine one_ (i := 55) (N := some 84) #[true, true, true, true, true, true, true, true, true, true, true, true, true, true, true, true, true, true, true, true, true, true, true, true, true, true, true, true, true, true, true, true, true, true, true, true, true, true, true, true, true, true, true, true, true, true, true, true, true, true, true, true, true, true, true, true, true, true, false, false, false, false, false, false, false, false, false, false, false, false, false, false, false, false] rfl rfl (one_of HT_.out (by kernel_rfl)) (by decide) (fun K hK => ?_)
                    refine goes_ Try.func36 (by kernel_rfl) rfl #[.agg #[.int .u64 t343, .int .u64 t344], .int .i64 a4] (by rfl) rfl rfl (by (try simp only [List.map_toArray, List.map_cons, List.map_nil]); first | done | rfl) ?_
                    with_reducible refine (tnum_Lsh.calls t343 t344 a4 t377 t378 _ A36.out).mono ?_
                    rintro e w86 ⟨rfl, hb⟩
                    refine ⟨_, rfl, ?_⟩
                    have n0_ := Aside0.mk (blk_below (g := gb336) (o := .cells #[.int .u64 t338, .int .u64 t339] 24 (0, 0)) (by (with_reducible repeat (first | apply bN_18 | apply bD_18 | apply bA_18)); exact BK336.out) hb)
                    have n1_ := Aside0.mk (blk_below (g := gb337) (o := .cells #[.int .u64 t340, .int .u64 t341] 24 (0, 0)) (by (with_reducible repeat (first | apply bN_18 | apply bD_18 | apply bA_18)); exact BK337.out) hb)
                    have n2_ := Aside0.mk (blk_below (g := gb345) (o := .cells #[.int .u64 t343, .int .u64 t344] 24 (0, 0)) (by (with_reducible repeat (first | apply bN_18 | apply bD_18 | apply bA_18)); exact BK345.out) hb)
                    have n3_ := Aside0.mk (below_step (by repeat (first | (with_reducible first | exact HB.out | apply lA_18 | apply lN_18 | apply lD_18 | refine lS_18 ?_ GE336.out | refine lS_18 ?_ GE337.out | refine lS_18 ?_ GE345.out) | exact HB.out)) hb)
                    clear BK336
                    clear BK337
                    clear BK345
                    clear HB
                    have BK336 := n0_
                    have BK337 := n1_
                    have BK345 := n2_
                    have HB := n3_
                    clear n0_ n1_ n2_ n3_
                    (try clear hb)
                    (try clear hb2)
                    (try clear hk)
                    (try clear hi)
                    refine hK.out _ _ ⟨(blk_cell BK345.out 0).trans rfl, (blk_cell BK345.out 1).trans rfl, (blk_cell BK337.out 0).trans rfl, (blk_cell BK337.out 1).trans rfl, (blk_cell BK336.out 0).trans rfl, (blk_cell BK336.out 1).trans rfl⟩ (fun hHeld => ?_)
                    clear hK K
                    refine norm_ (a' := ?_) ?_ ?_
                    rotate_left
                    · show Act.put _ (some 84) _ = _
                      simp only [Act.put, List.setIfInBounds_toArray, List.set_cons_zero, List.set_cons_succ, i64_w, i32_w]
                      rfl
                    refine one_ (i := 58) (N := some 87) #[true, true, true, true, true, true, true, true, true, true, true, true, true, true, true, true, true, true, true, true, true, true, true, true, true, true, true, true, true, true, true, true, true, true, true, true, true, true, true, true, true, true, true, true, true, true, true, true, true, true, true, true, true, true, true, true, true, true, true, false, false, false, false, false, false, false, false, false, false, false, false, false, false, false] rfl rfl (one_of HT_.out (by kernel_rfl)) (by decide) (fun K hK => ?_)
                    refine goes_ Try.func36 (by kernel_rfl) rfl #[.agg #[.int .u64 t338, .int .u64 t339], .int .i64 a4] (by rfl) rfl rfl (by (try simp only [List.map_toArray, List.map_cons, List.map_nil]); first | done | rfl) ?_
                    with_reducible refine (tnum_Lsh.calls t338 t339 a4 t379 t380 _ A37.out).mono ?_
                    rintro e w87 ⟨rfl, hb⟩
                    refine ⟨_, rfl, ?_⟩
                    have n0_ := Aside0.mk (blk_below (g := gb336) (o := .cells #[.int .u64 t338, .int .u64 t339] 24 (0, 0)) (by (with_reducible repeat (first | apply bN_18 | apply bD_18 | apply bA_18)); exact BK336.out) hb)
                    have n1_ := Aside0.mk (blk_below (g := gb337) (o := .cells #[.int .u64 t340, .int .u64 t341] 24 (0, 0)) (by (with_reducible repeat (first | apply bN_18 | apply bD_18 | apply bA_18)); exact BK337.out) hb)
                    have n2_ := Aside0.mk (blk_below (g := gb345) (o := .cells #[.int .u64 t343, .int .u64 t344] 24 (0, 0)) (by (with_reducible repeat (first | apply bN_18 | apply bD_18 | apply bA_18)); exact BK345.out) hb)
                    have n3_ := Aside0.mk (below_step (by repeat (first | (with_reducible first | exact HB.out | apply lA_18 | apply lN_18 | apply lD_18 | refine lS_18 ?_ GE336.out | refine lS_18 ?_ GE337.out | refine lS_18 ?_ GE345.out) | exact HB.out)) hb)
                    clear BK336
                    clear BK337
                    clear BK345
                    clear HB
                    have BK336 := n0_
                    have BK337 := n1_
                    have BK345 := n2_
                    have HB := n3_
                    clear n0_ n1_ n2_ n3_
                    (try clear hb)
                    (try clear hb2)
                    (try clear hk)
                    (try clear hi)
                    refine hK.out _ _ ⟨(blk_cell BK345.out 0).trans rfl, (blk_cell BK345.out 1).trans rfl, (blk_cell BK337.out 0).trans rfl, (blk_cell BK337.out 1).trans rfl, (blk_cell BK336.out 0).trans rfl, (blk_cell BK336.out 1).trans rfl⟩ (fun hHeld => ?_)
                    clear hK K
                    refine norm_ (a' := ?_) ?_ ?_
                    rotate_left
                    · show Act.put _ (some 87) _ = _
                      simp only [Act.put, List.setIfInBounds_toArray, List.set_cons_zero, List.set_cons_succ, i64_w, i32_w]
                      rfl
                    refine one_ (i := 59) (N := some 88) #[true, true, true, true, true, true, true, true, true, true, true, true, true, true, true, true, true, true, true, true, true, true, true, true, true, true, true, true, true, true, true, true, true, true, true, true, true, true, true, true, true, true, true, true, true, true, true, true, true, true, true, true, true, true, true, true, true, true, true, true, false, false, false, false, false, false, false, false, false, false, false, false, false, false] rfl rfl (one_of HT_.out (by kernel_rfl)) (by decide) (fun K hK => ?_)
                    refine goes_ Try.func13 (by kernel_rfl) rfl #[.agg #[.int .u64 t377, .int .u64 t378], .agg #[.int .u64 t379, .int .u64 t380]] (by rfl) rfl rfl (by (try simp only [List.map_toArray, List.map_cons, List.map_nil]); first | done | rfl) ?_
                    with_reducible refine (tnum_Within.calls t377 t378 t379 t380 true _ A38.out).mono ?_
                    rintro e w88 ⟨rfl, hb⟩
                    refine ⟨_, rfl, ?_⟩
                    have n0_ := Aside0.mk (blk_below (g := gb336) (o := .cells #[.int .u64 t338, .int .u64 t339] 24 (0, 0)) (by (with_reducible repeat (first | apply bN_18 | apply bD_18 | apply bA_18)); exact BK336.out) hb)
                    have n1_ := Aside0.mk (blk_below (g := gb337) (o := .cells #[.int .u64 t340, .int .u64 t341] 24 (0, 0)) (by (with_reducible repeat (first | apply bN_18 | apply bD_18 | apply bA_18)); exact BK337.out) hb)
                    have n2_ := Aside0.mk (blk_below (g := gb345) (o := .cells #[.int .u64 t343, .int .u64 t344] 24 (0, 0)) (by (with_reducible repeat (first | apply bN_18 | apply bD_18 | apply bA_18)); exact BK345.out) hb)
                    have n3_ := Aside0.mk (below_step (by repeat (first | (with_reducible first | exact HB.out | apply lA_18 | apply lN_18 | apply lD_18 | refine lS_18 ?_ GE336.out | refine lS_18 ?_ GE337.out | refine lS_18 ?_ GE345.out) | exact HB.out)) hb)
                    clear BK336
                    clear BK337
                    clear BK345
                    clear HB
                    have BK336 := n0_
                    have BK337 := n1_
                    have BK345 := n2_
                    have HB := n3_
                    clear n0_ n1_ n2_ n3_
                    (try clear hb)
                    (try clear hb2)
                    (try clear hk)
                    (try clear hi)
                    refine hK.out _ _ ⟨(blk_cell BK345.out 0).trans rfl, (blk_cell BK345.out 1).trans rfl, (blk_cell BK337.out 0).trans rfl, (blk_cell BK337.out 1).trans rfl, (blk_cell BK336.out 0).trans rfl, (blk_cell BK336.out 1).trans rfl⟩ (fun hHeld => ?_)
                    clear hK K
                    refine norm_ (a' := ?_) ?_ ?_
                    rotate_left
                    · show Act.put _ (some 88) _ = _
                      simp only [Act.put, List.setIfInBounds_toArray, List.set_cons_zero, List.set_cons_succ, i64_w, i32_w]
                      rfl
                    refine pure_ (i := 60) (N := some 89) (v := ?_) (a' := ?_) #[true, true, true, true, true, true, true, true, true, true, true, true, true, true, true, true, true, true, true, true, true, true, true, true, true, true, true, true, true, true, true, true, true, true, true, true, true, true, true, true, true, true, true, true, true, true, true, true, true, true, true, true, true, true, true, true, true, true, true, true, true, false, false, false, false, false, false, false, false, false, false, false, false, false] rfl rfl (any_of HT_.out (by kernel_rfl)) (fun _ _ _ h => h) (Or.inl ⟨by rfl, ?_⟩) ?_ ?_
                    rotate_left
                    · intro w'
                      go_simp
                      with_reducible rfl
                    rotate_left
                    · simp only [Act.put, List.setIfInBounds_toArray, List.set_cons_zero, List.set_cons_succ, i64_w, i32_w]
                      rfl
                    refine pure_ (i := 61) (N := some 90) (v := ?_) (a' := ?_) #[true, true, true, true, true, true, true, true, true, true, true, true, true, true, true, true, true, true, true, true, true, true, true, true, true, true, true, true, true, true, true, true, true, true, true, true, true, true, true, true, true, true, true, true, true, true, true, true, true, true, true, true, true, true, true, true, true, true, true, true, true, true, false, false, false, false, false, false, false, false, false, false, false, false] rfl rfl (any_of HT_.out (by kernel_rfl)) (fun _ _ _ h => h) (Or.inl ⟨by rfl, ?_⟩) ?_ ?_
                    rotate_left
                    · intro w'
                      go_simp
                      with_reducible rfl
                    rotate_left
                    · simp only [Act.put, List.setIfInBounds_toArray, List.set_cons_zero, List.set_cons_succ, i64_w, i32_w]
                      rfl
                    refine pure_ (i := 63) (N := some 92) (v := ?_) (a' := ?_) #[true, true, true, true, true, true, true, true, true, true, true, true, true, true, true, true, true, true, true, true, true, true, true, true, true, true, true, true, true, true, true, true, true, true, true, true, true, true, true, true, true, true, true, true, true, true, true, true, true, true, true, true, true, true, true, true, true, true, true, true, true, true, false, true, false, false, false, false, false, false, false, false, false, false] rfl rfl (any_of HT_.out (by kernel_rfl)) (fun _ _ _ h => h) (Or.inl ⟨by rfl, ?_⟩) ?_ ?_
                    rotate_left
                    · intro w'
                      go_simp
                      with_reducible rfl
                    rotate_left
                    · simp only [Act.put, List.setIfInBounds_toArray, List.set_cons_zero, List.set_cons_succ, i64_w, i32_w]
                      rfl
                    refine pure_ (i := 66) (N := some 95) (v := ?_) (a' := ?_) #[true, true, true, true, true, true, true, true, true, true, true, true, true, true, true, true, true, true, true, true, true, true, true, true, true, true, true, true, true, true, true, true, true, true, true, true, true, true, true, true, true, true, true, true, true, true, true, true, true, true, true, true, true, true, true, true, true, true, true, true, true, true, false, true, false, false, true, false, false, false, false, false, false, false] rfl rfl (any_of HT_.out (by kernel_rfl)) (fun _ _ _ h => h) (Or.inl ⟨by rfl, ?_⟩) ?_ ?_
                    rotate_left
                    · intro w'
                      go_simp
                      with_reducible rfl
                    rotate_left
                    · simp only [Act.put, List.setIfInBounds_toArray, List.set_cons_zero, List.set_cons_succ, i64_w, i32_w]
                      rfl
                    refine take_ (i := 62) (N := some 91) (v := ?_) (a' := ?_) #[true, true, true, true, true, true, true, true, true, true, true, true, true, true, true, true, true, true, true, true, true, true, true, true, true, true, true, true, true, true, true, true, true, true, true, true, true, true, true, true, true, true, true, true, true, true, true, true, true, true, true, true, true, true, true, true, true, true, true, true, true, true, true, true, false, false, true, false, false, false, false, false, false, false] rfl rfl (take_ofW HT_.out HW_.out (by kernel_rfl)) (fun _ _ _ h => h) (Or.inl ⟨by rfl, ?_⟩) hHeld ?_ ?_
                    rotate_left
                    · rintro w' ⟨s0, s1, s2, s3, s4, s5⟩
                      go_simp
                      with_reducible rfl
                    rotate_left
                    · simp only [Act.put, List.setIfInBounds_toArray, List.set_cons_zero, List.set_cons_succ, i64_w, i32_w]
                      rfl
                    refine take_ (i := 65) (N := some 94) (v := ?_) (a' := ?_) #[true, true, true, true, true, true, true, true, true, true, true, true, true, true, true, true, true, true, true, true, true, true, true, true, true, true, true, true, true, true, true, true, true, true, true, true, true, true, true, true, true, true, true, true, true, true, true, true, true, true, true, true, true, true, true, true, true, true, true, true, true, true, true, true, false, true, true, false, false, false, false, false, false, false] rfl rfl (take_ofW HT_.out HW_.out (by kernel_rfl)) (fun _ _ _ h => h) (Or.inl ⟨by rfl, ?_⟩) hHeld ?_ ?_
                    rotate_left
                    · rintro w' ⟨s0, s1, s2, s3, s4, s5⟩
                      go_simp
                      with_reducible rfl
                    rotate_left
                    · simp only [Act.put, List.setIfInBounds_toArray, List.set_cons_zero, List.set_cons_succ, i64_w, i32_w]
                      rfl
                    refine one_ (i := 64) (N := some 93) #[true, true, true, true, true, true, true, true, true, true, true, true, true, true, true, true, true, true, true, true, true, true, true, true, true, true, true, true, true, true, true, true, true, true, true, true, true, true, true, true, true, true, true, true, true, true, true, true, true, true, true, true, true, true, true, true, true, true, true, true, true, true, true, true, true, true, true, false, false, false, false, false, false, false] rfl rfl (one_of HT_.out (by kernel_rfl)) (by decide) (fun K hK => ?_)
                    refine goes_ Try.func37 (by kernel_rfl) rfl #[.agg #[.int .u64 t343, .int .u64 t344], .int .i64 a4, .int .i64 64] (by rfl) rfl rfl (by (try simp only [List.map_toArray, List.map_cons, List.map_nil]); first | done | rfl) ?_
                    with_reducible refine (tnum_Arsh.calls t343 t344 a4 64 t382 t383 _ A40.out).mono ?_
                    rintro e w89 ⟨rfl, hb⟩
                    refine ⟨_, rfl, ?_⟩
                    have n0_ := Aside0.mk (blk_below (g := gb336) (o := .cells #[.int .u64 t338, .int .u64 t339] 24 (0, 0)) (by (with_reducible repeat (first | apply bN_18 | apply bD_18 | apply bA_18)); exact BK336.out) hb)
                    have n1_ := Aside0.mk (blk_below (g := gb337) (o := .cells #[.int .u64 t340, .int .u64 t341] 24 (0, 0)) (by (with_reducible repeat (first | apply bN_18 | apply bD_18 | apply bA_18)); exact BK337.out) hb)
                    have n2_ := Aside0.mk (blk_below (g := gb345) (o := .cells #[.int .u64 t343, .int .u64 t344] 24 (0, 0)) (by (with_reducible repeat (first | apply bN_18 | apply bD_18 | apply bA_18)); exact BK345.out) hb)
                    have n3_ := Aside0.mk (below_step (by repeat (first | (with_reducible first | exact HB.out | apply lA_18 | apply lN_18 | apply lD_18 | refine lS_18 ?_ GE336.out | refine lS_18 ?_ GE337.out | refine lS_18 ?_ GE345.out) | exact HB.out)) hb)
                    clear BK336
                    clear BK337
                    clear BK345
                    clear HB
                    have BK336 := n0_
                    have BK337 := n1_
                    have BK345 := n2_
                    have HB := n3_
                    clear n0_ n1_ n2_ n3_
                    (try clear hb)
                    (try clear hb2)
                    (try clear hk)
                    (try clear hi)
                    refine hK.out _ _ ⟨(blk_cell BK345.out 0).trans rfl, (blk_cell BK345.out 1).trans rfl, (blk_cell BK337.out 0).trans rfl, (blk_cell BK337.out 1).trans rfl, (blk_cell BK336.out 0).trans rfl, (blk_cell BK336.out 1).trans rfl⟩ (fun hHeld => ?_)
                    clear hK K
                    refine norm_ (a' := ?_) ?_ ?_
                    rotate_left
                    · show Act.put _ (some 93) _ = _
                      simp only [Act.put, List.setIfInBounds_toArray, List.set_cons_zero, List.set_cons_succ, i64_w, i32_w]
                      rfl
                    refine one_ (i := 67) (N := some 96) #[true, true, true, true, true, true, true, true, true, true, true, true, true, true, true, true, true, true, true, true, true, true, true, true, true, true, true, true, true, true, true, true, true, true, true, true, true, true, true, true, true, true, true, true, true, true, true, true, true, true, true, true, true, true, true, true, true, true, true, true, true, true, true, true, true, true, true, true, false, false, false, false, false, false] rfl rfl (one_of HT_.out (by kernel_rfl)) (by decide) (fun K hK => ?_)
                    refine goes_ Try.func37 (by kernel_rfl) rfl #[.agg #[.int .u64 t338, .int .u64 t339], .int .i64 a4, .int .i64 64] (by rfl) rfl rfl (by (try simp only [List.map_toArray, List.map_cons, List.map_nil]); first | done | rfl) ?_
                    with_reducible refine (tnum_Arsh.calls t338 t339 a4 64 t384 t385 _ A41.out).mono ?_
                    rintro e w90 ⟨rfl, hb⟩
                    refine ⟨_, rfl, ?_⟩
                    have n0_ := Aside0.mk (blk_below (g := gb336) (o := .cells #[.int .u64 t338, .int .u64 t339] 24 (0, 0)) (by (with_reducible repeat (first | apply bN_18 | apply bD_18 | apply bA_18)); exact BK336.out) hb)
                    have n1_ := Aside0.mk (blk_below (g := gb337) (o := .cells #[.int .u64 t340, .int .u64 t341] 24 (0, 0)) (by (with_reducible repeat (first | apply bN_18 | apply bD_18 | apply bA_18)); exact BK337.out) hb)
                    have n2_ := Aside0.mk (blk_below (g := gb345) (o := .cells #[.int .u64 t343, .int .u64 t344] 24 (0, 0)) (by (with_reducible repeat (first | apply bN_18 | apply bD_18 | apply bA_18)); exact BK345.out) hb)
                    have n3_ := Aside0.mk (below_step (by repeat (first | (with_reducible first | exact HB.out | apply lA_18 | apply lN_18 | apply lD_18 | refine lS_18 ?_ GE336.out | refine lS_18 ?_ GE337.out | refine lS_18 ?_ GE345.out) | exact HB.out)) hb)
                    clear BK336
                    clear BK337
                    clear BK345
                    clear HB
                    have BK336 := n0_
                    have BK337 := n1_
                    have BK345 := n2_
                    have HB := n3_
                    clear n0_ n1_ n2_ n3_
                    (try clear hb)
                    (try clear hb2)
                    (try clear hk)
                    (try clear hi)
                    refine hK.out _ _ ⟨(blk_cell BK345.out 0).trans rfl, (blk_cell BK345.out 1).trans rfl, (blk_cell BK337.out 0).trans rfl, (blk_cell BK337.out 1).trans rfl, (blk_cell BK336.out 0).trans rfl, (blk_cell BK336.out 1).trans rfl⟩ (fun hHeld => ?_)
                    clear hK K
                    refine norm_ (a' := ?_) ?_ ?_
                    rotate_left
                    · show Act.put _ (some 96) _ = _
                      simp only [Act.put, List.setIfInBounds_toArray, List.set_cons_zero, List.set_cons_succ, i64_w, i32_w]
                      rfl
                    refine one_ (i := 68) (N := some 97) #[true, true, true, true, true, true, true, true, true, true, true, true, true, true, true, true, true, true, true, true, true, true, true, true, true, true, true, true, true, true, true, true, true, true, true, true, true, true, true, true, true, true, true, true, true, true, true, true, true, true, true, true, true, true, true, true, true, true, true, true, true, true, true, true, true, true, true, true, true, false, false, false, false, false] rfl rfl (one_of HT_.out (by kernel_rfl)) (by decide) (fun K hK => ?_)
                    refine goes_ Try.func13 (by kernel_rfl) rfl #[.agg #[.int .u64 t382, .int .u64 t383], .agg #[.int .u64 t384, .int .u64 t385]] (by rfl) rfl rfl (by (try simp only [List.map_toArray, List.map_cons, List.map_nil]); first | done | rfl) ?_
                    with_reducible refine (tnum_Within.calls t382 t383 t384 t385 true _ A42.out).mono ?_
                    rintro e w91 ⟨rfl, hb⟩
                    refine ⟨_, rfl, ?_⟩
                    have n0_ := Aside0.mk (blk_below (g := gb336) (o := .cells #[.int .u64 t338, .int .u64 t339] 24 (0, 0)) (by (with_reducible repeat (first | apply bN_18 | apply bD_18 | apply bA_18)); exact BK336.out) hb)
                    have n1_ := Aside0.mk (blk_below (g := gb337) (o := .cells #[.int .u64 t340, .int .u64 t341] 24 (0, 0)) (by (with_reducible repeat (first | apply bN_18 | apply bD_18 | apply bA_18)); exact BK337.out) hb)
                    have n2_ := Aside0.mk (blk_below (g := gb345) (o := .cells #[.int .u64 t343, .int .u64 t344] 24 (0, 0)) (by (with_reducible repeat (first | apply bN_18 | apply bD_18 | apply bA_18)); exact BK345.out) hb)
                    have n3_ := Aside0.mk (below_step (by repeat (first | (with_reducible first | exact HB.out | apply lA_18 | apply lN_18 | apply lD_18 | refine lS_18 ?_ GE336.out | refine lS_18 ?_ GE337.out | refine lS_18 ?_ GE345.out) | exact HB.out)) hb)
                    clear BK336
                    clear BK337
                    clear BK345
                    clear HB
                    have BK336 := n0_
                    have BK337 := n1_
                    have BK345 := n2_
                    have HB := n3_
                    clear n0_ n1_ n2_ n3_
                    (try clear hb)
                    (try clear hb2)
                    (try clear hk)
                    (try clear hi)
                    refine hK.out _ _ ⟨(blk_cell BK345.out 0).trans rfl, (blk_cell BK345.out 1).trans rfl, (blk_cell BK337.out 0).trans rfl, (blk_cell BK337.out 1).trans rfl, (blk_cell BK336.out 0).trans rfl, (blk_cell BK336.out 1).trans rfl⟩ (fun hHeld => ?_)
                    clear hK K
                    refine norm_ (a' := ?_) ?_ ?_
                    rotate_left
                    · show Act.put _ (some 97) _ = _
                      simp only [Act.put, List.setIfInBounds_toArray, List.set_cons_zero, List.set_cons_succ, i64_w, i32_w]
                      rfl
                    refine pure_ (i := 69) (N := some 98) (v := ?_) (a' := ?_) #[true, true, true, true, true, true, true, true, true, true, true, true, true, true, true, true, true, true, true, true, true, true, true, true, true, true, true, true, true, true, true, true, true, true, true, true, true, true, true, true, true, true, true, true, true, true, true, true, true, true, true, true, true, true, true, true, true, true, true, true, true, true, true, true, true, true, true, true, true, true, false, false, false, false] rfl rfl (any_of HT_.out (by kernel_rfl)) (fun _ _ _ h => h) (Or.inl ⟨by rfl, ?_⟩) ?_ ?_
                    rotate_left
                    · intro w'
                      go_simp
                      with_reducible rfl
                    rotate_left
                    · simp only [Act.put, List.setIfInBounds_toArray, List.set_cons_zero, List.set_cons_succ, i64_w, i32_w]
                      rfl
                    refine pure_ (i := 70) (N := some 99) (v := ?_) (a' := ?_) #[true, true, true, true, true, true, true, true, true, true, true, true, true, true, true, true, true, true, true, true, true, true, true, true, true, true, true, true, true, true, true, true, true, true, true, true, true, true, true, true, true, true, true, true, true, true, true, true, true, true, true, true, true, true, true, true, true, true, true, true, true, true, true, true, true, true, true, true, true, true, true, false, false, false] rfl rfl (any_of HT_.out (by kernel_rfl)) (fun _ _ _ h => h) (Or.inl ⟨by rfl, ?_⟩) ?_ ?_
                    rotate_left
                    · intro w'
                      go_simp
                      with_reducible rfl
                    rotate_left
                    · simp only [Act.put, List.setIfInBounds_toArray, List.set_cons_zero, List.set_cons_succ, i64_w, i32_w]
                      rfl
                    refine one_ (i := 71) (N := some 100) #[true, true, true, true, true, true, true, true, true, true, true, true, true, true, true, true, true, true, true, true, true, true, true, true, true, true, true, true, true, true, true, true, true, true, true, true, true, true, true, true, true, true, true, true, true, true, true, true, true, true, true, true, true, true, true, true, true, true, true, true, true, true, true, true, true, true, true, true, true, true, true, true, false, false] rfl rfl (one_of HT_.out (by kernel_rfl)) (by decide) (fun K hK => ?_)
                    refine goes_ Try.func16 (by kernel_rfl) rfl #[] (by rfl) rfl rfl (by (try simp only [List.map_toArray, List.map_cons, List.map_nil]); first | done | rfl) ?_
                    with_reducible refine (lockgatelaw03_known.calls k  t387 _ A44.out).mono ?_
                    rintro e w92 ⟨rfl, hb⟩
                    refine ⟨_, rfl, ?_⟩
                    have n0_ := Aside0.mk (blk_below (g := gb336) (o := .cells #[.int .u64 t338, .int .u64 t339] 24 (0, 0)) (by (with_reducible repeat (first | apply bN_18 | apply bD_18 | apply bA_18)); exact BK336.out) hb)
                    have n1_ := Aside0.mk (blk_below (g := gb337) (o := .cells #[.int .u64 t340, .int .u64 t341] 24 (0, 0)) (by (with_reducible repeat (first | apply bN_18 | apply bD_18 | apply bA_18)); exact BK337.out) hb)
                    have n2_ := Aside0.mk (blk_below (g := gb345) (o := .cells #[.int .u64 t343, .int .u64 t344] 24 (0, 0)) (by (with_reducible repeat (first | apply bN_18 | apply bD_18 | apply bA_18)); exact BK345.out) hb)
                    have n3_ := Aside0.mk (below_step (by repeat (first | (with_reducible first | exact HB.out | apply lA_18 | apply lN_18 | apply lD_18 | refine lS_18 ?_ GE336.out | refine lS_18 ?_ GE337.out | refine lS_18 ?_ GE345.out) | exact HB.out)) hb)
                    clear BK336
                    clear BK337
                    clear BK345
                    clear HB
                    have BK336 := n0_
                    have BK337 := n1_
                    have BK345 := n2_
                    have HB := n3_
                    clear n0_ n1_ n2_ n3_
                    (try clear hb)
                    (try clear hb2)
                    (try clear hk)
                    (try clear hi)
                    refine hK.out _ _ ⟨(blk_cell BK345.out 0).trans rfl, (blk_cell BK345.out 1).trans rfl, (blk_cell BK337.out 0).trans rfl, (blk_cell BK337.out 1).trans rfl, (blk_cell BK336.out 0).trans rfl, (blk_cell BK336.out 1).trans rfl⟩ (fun hHeld => ?_)
                    clear hK K
                    refine norm_ (a' := ?_) ?_ ?_
                    rotate_left
                    · show Act.put _ (some 100) _ = _
                      simp only [Act.put, List.setIfInBounds_toArray, List.set_cons_zero, List.set_cons_succ, i64_w, i32_w]
                      rfl
                    refine pure_ (i := 72) (N := some 101) (v := ?_) (a' := ?_) #[true, true, true, true, true, true, true, true, true, true, true, true, true, true, true, true, true, true, true, true, true, true, true, true, true, true, true, true, true, true, true, true, true, true, true, true, true, true, true, true, true, true, true, true, true, true, true, true, true, true, true, true, true, true, true, true, true, true, true, true, true, true, true, true, true, true, true, true, true, true, true, true, true, false] rfl rfl (any_of HT_.out (by kernel_rfl)) (fun _ _ _ h => h) (Or.inl ⟨by rfl, ?_⟩) ?_ ?_
                    rotate_left
                    · intro w'
                      go_simp
                      with_reducible rfl
                    rotate_left
                    · simp only [Act.put, List.setIfInBounds_toArray, List.set_cons_zero, List.set_cons_succ, i64_w, i32_w]
                      rfl
                    refine pure_ (i := 73) (N := some 10) (v := ?_) (a' := ?_) #[true, true, true, true, true, true, true, true, true, true, true, true, true, true, true, true, true, true, true, true, true, true, true, true, true, true, true, true, true, true, true, true, true, true, true, true, true, true, true, true, true, true, true, true, true, true, true, true, true, true, true, true, true, true, true, true, true, true, true, true, true, true, true, true, true, true, true, true, true, true, true, true, true, true] rfl rfl (any_of HT_.out (by kernel_rfl)) (fun _ _ _ h => h) (Or.inl ⟨by rfl, ?_⟩) ?_ ?_
                    rotate_left
                    · intro w'
                      go_simp
                      with_reducible rfl
                    rotate_left
                    · simp only [Act.put, List.setIfInBounds_toArray, List.set_cons_zero, List.set_cons_succ, i64_w, i32_w]
                      rfl
                    refine done_ (done_of HT_.out (by kernel_rfl)) ?_
                    try go_wp2
                    go_ret
                    exact ⟨by first | rfl | (simp [errW_none, errW_some] <;> rfl) | (simp [*, errW_none, errW_some] <;> rfl), by repeat (first | (with_reducible first | exact HB.out | apply lA_18 | apply lN_18 | apply lD_18 | refine lS_18 ?_ GE336.out | refine lS_18 ?_ GE337.out | refine lS_18 ?_ GE345.out) | exact HB.out)⟩
                  · replace c43 := Bool.eq_false_iff.mpr c43
                    subst c43
                    have H1 : (some false) = some r := by rw [if_neg (show ¬ (false = true) by decide)] at H; exact H
                    clear H
                    have H := H1
                    clear H1
                    exact absurd ((Option.some.inj H).trans HRT.out) (by decide)
                · replace c39 := Bool.eq_false_iff.mpr c39
                  subst c39
                  have H1 : (some false) = some r := by rw [if_neg (show ¬ (false = true) by decide)] at H; exact H
                  clear H
                  have H := H1
                  clear H1
                  exact absurd ((Option.some.inj H).trans HRT.out) (by decide)
              · replace c35 := Bool.eq_false_iff.mpr c35
                subst c35
                have H1 : (some false) = some r := by rw [if_neg (show ¬ (false = true) by decide)] at H; exact H
                clear H
                have H := H1
                clear H1
                exact absurd ((Option.some.inj H).trans HRT.out) (by decide)
            · replace c31 := Bool.eq_false_iff.mpr c31
              subst c31
              have H1 : (some false) = some r := by rw [if_neg (show ¬ (false = true) by decide)] at H; exact H
              clear H
              have H := H1
              clear H1
              exact absurd ((Option.some.inj H).trans HRT.out) (by decide)
          · replace c27 := Bool.eq_false_iff.mpr c27
            subst c27
            have H1 : (some false) = some r := by rw [if_neg (show ¬ (false = true) by decide)] at H; exact H
            clear H
            have H := H1
            clear H1
            exact absurd ((Option.some.inj H).trans HRT.out) (by decide)
        · replace c23 := Bool.eq_false_iff.mpr c23
          subst c23
          have H1 : (some false) = some r := by rw [if_neg (show ¬ (false = true) by decide)] at H; exact H
          clear H
          have H := H1
          clear H1
          exact absurd ((Option.some.inj H).trans HRT.out) (by decide)
      · replace c19 := Bool.eq_false_iff.mpr c19
        subst c19
        have H1 : (some false) = some r := by rw [if_neg (show ¬ (false = true) by decide)] at H; exact H
        clear H
        have H := H1
        clear H1
        exact absurd ((Option.some.inj H).trans HRT.out) (by decide)
    · replace c15 := Bool.eq_false_iff.mpr c15
      subst c15
      have H1 : (some false) = some r := by rw [if_neg (show ¬ (false = true) by decide)] at H; exact H
      clear H
      have H := H1
      clear H1
      exact absurd ((Option.some.inj H).trans HRT.out) (by decide)
  · replace c11 := Bool.eq_false_iff.mpr c11
    subst c11
    have H1 : (some false) = some r := by rw [if_neg (show ¬ (false = true) by decide)] at H; exact H
    clear H
    have H := H1
    clear H1
    exact absurd ((Option.some.inj H).trans HRT.out) (by decide)

end Go.Proofs.Ytkmnogcahpbdjaa.PA
