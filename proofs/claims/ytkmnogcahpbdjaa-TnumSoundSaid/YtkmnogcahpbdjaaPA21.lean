-- PRINTED by print.py (a twelfth state) out of the translation. Not trusted: Lean checks it.
import Derived.Test.YtkmnogcahpbdjaaPA0
import Derived.Test.YtkmnogcahpbdjaaPA2
import Derived.Test.YtkmnogcahpbdjaaPA3
import Derived.Test.YtkmnogcahpbdjaaPA4
import Derived.Test.YtkmnogcahpbdjaaPA6
import Derived.Test.YtkmnogcahpbdjaaPA13
namespace Go.Proofs.Ytkmnogcahpbdjaa.PA
open Go.RowKit Go.Proofs.YtkmnogcahpbdjaaW.PrintWords Go.Proofs.YtkmnogcahpbdjaaW.PrintLast Go.Proofs.YtkmnogcahpbdjaaW.PrintMore
attribute [local go_sem] max2_int min2_int max_two min_two max_three min_three max_four min_four   -- for this text's walks alone
set_option linter.defProp false
def bN_21 := @blk_drewN
def bD_21 := @blk_drew
def bA_21 := @blk_alloc
def lA_21 := @below_alloc
def lN_21 := @pw_below_drewN
def lD_21 := @below_drew1
def lS_21 := @below_set
set_option linter.unusedVariables false
set_option linter.unusedSimpArgs false

/-! ### lockgatelaw03_TnumSound: function 10 -/
mutual
def lockgatelaw03_TnumSound.j0 : Nat → Int → Int → Int → Bool → Int → Int → Int → Int → Option (Bool)
  | 0, _, _, _, _, _, _, _, _ => none
  | k + 1, x4, x11, x12, x54, x524000, x524001, x525000, x525001 => if x54 = true then (some false) else ((tnum_Or.f x524000 x524001 x525000 x525001).bind fun bt543 => ((lockgatelaw03_alu.f k 4 x11 x12).bind fun t545 => ((lockgatelaw03_has.f bt543.1 bt543.2 t545).bind fun t546 => (if t546 = true then ((tnum_And.f x524000 x524001 x525000 x525001).bind fun bt547 => ((lockgatelaw03_alu.f k 5 x11 x12).bind fun t549 => ((lockgatelaw03_has.f bt547.1 bt547.2 t549).bind fun t550 => (if t550 = true then ((tnum_Xor.f x524000 x524001 x525000 x525001).bind fun bt551 => ((lockgatelaw03_alu.f k 10 x11 x12).bind fun t553 => ((lockgatelaw03_has.f bt551.1 bt551.2 t553).bind fun t554 => (lockgatelaw03_TnumSound.j1 k x4 x11 (!t554) x524000 x524001)))) else (lockgatelaw03_TnumSound.j1 k x4 x11 true x524000 x524001))))) else (lockgatelaw03_TnumSound.j1 k x4 x11 true x524000 x524001)))))
def lockgatelaw03_TnumSound.j1 : Nat → Int → Int → Bool → Int → Int → Option (Bool)
  | 0, _, _, _, _, _ => none
  | k + 1, x4, x11, x82, x524000, x524001 => if x82 = true then (some false) else ((word_Alu.f k 12 false x11 (IntKind.u64.wrap (x4))).bind fun bt555 => ((tnum_Lsh.f x524000 x524001 x4).bind fun bt557 => ((lockgatelaw03_alu.f k 6 x11 (IntKind.u64.wrap (x4))).bind fun t559 => ((lockgatelaw03_has.f bt557.1 bt557.2 t559).bind fun t560 => (if t560 = true then ((tnum_Rsh.f x524000 x524001 x4).bind fun bt561 => ((lockgatelaw03_alu.f k 7 x11 (IntKind.u64.wrap (x4))).bind fun t563 => ((lockgatelaw03_has.f bt561.1 bt561.2 t563).bind fun t564 => (if t564 = true then ((tnum_Arsh.f x524000 x524001 x4 64).bind fun bt565 => ((lockgatelaw03_alu.f k 12 x11 (IntKind.u64.wrap (x4))).bind fun t567 => ((lockgatelaw03_has.f bt565.1 bt565.2 t567).bind fun t568 => (if t568 = true then ((tnum_Arsh.f x524000 x524001 x4 32).bind fun bt569 => ((lockgatelaw03_has.f bt569.1 bt569.2 bt555.1).bind fun t571 => (lockgatelaw03_TnumSound.j2 k x11 (!t571) x524000 x524001))) else (lockgatelaw03_TnumSound.j2 k x11 true x524000 x524001))))) else (lockgatelaw03_TnumSound.j2 k x11 true x524000 x524001))))) else (lockgatelaw03_TnumSound.j2 k x11 true x524000 x524001))))))
def lockgatelaw03_TnumSound.j2 : Nat → Int → Bool → Int → Int → Option (Bool)
  | 0, _, _, _, _ => none
  | k + 1, x11, x126, x524000, x524001 => if x126 = true then (some false) else (lockgatelaw03_TnumSound.l0 k x11 1 x524000 x524001)
def lockgatelaw03_TnumSound.l0 : Nat → Int → Int → Int → Int → Option (Bool)
  | 0, _, _, _, _ => none
  | k + 1, x11, x16, x524000, x524001 => if x16 < 8 then ((tnum_Cut.f x524000 x524001 x16).bind fun bt576 => (if 0 ≤ (IntKind.u64.wrap (wrap64 (8 * x16))) then (if (shl .u64 1 (IntKind.u64.wrap (wrap64 (8 * x16)))) = 0 then (none) else ((lockgatelaw03_has.f bt576.1 bt576.2 (Int.tmod x11 (shl .u64 1 (IntKind.u64.wrap (wrap64 (8 * x16)))))).bind fun t578 => (if t578 = true then (lockgatelaw03_TnumSound.l0 k x11 (wrap64 (x16 + 1)) x524000 x524001) else (some false)))) else (none))) else ((tnum_Cut.f x524000 x524001 8).bind fun bt572 => ((lockgatelaw03_has.f bt572.1 bt572.2 x11).bind fun t574 => (if t574 = true then ((lockgatelaw03_known.f k).bind fun t575 => (some t575)) else (some false))))
end
def lockgatelaw03_TnumSound.f (k : Nat) (a0_0 : Int) (a0_1 : Int) (a1_0 : Int) (a1_1 : Int) (a2 : Int) (a3 : Int) (a4 : Int) : Option (Bool) := (lockgatelaw03_May.f a0_0 a0_1).bind fun bt525 => ((lockgatelaw03_May.f a1_0 a1_1).bind fun bt527 => ((lockgatelaw03_one.f bt525.1 bt525.2 a2).bind fun t529 => ((lockgatelaw03_one.f bt527.1 bt527.2 a3).bind fun t530 => ((tnum_Add.f bt525.1 bt525.2 bt527.1 bt527.2).bind fun bt531 => ((lockgatelaw03_alu.f k 0 t529 t530).bind fun t533 => ((lockgatelaw03_has.f bt531.1 bt531.2 t533).bind fun t534 => (if t534 = true then ((tnum_Sub.f bt525.1 bt525.2 bt527.1 bt527.2).bind fun bt535 => ((lockgatelaw03_alu.f k 1 t529 t530).bind fun t537 => ((lockgatelaw03_has.f bt535.1 bt535.2 t537).bind fun t538 => (if t538 = true then ((tnum_Mul.f k bt525.1 bt525.2 bt527.1 bt527.2).bind fun bt539 => ((lockgatelaw03_alu.f k 2 t529 t530).bind fun t541 => ((lockgatelaw03_has.f bt539.1 bt539.2 t541).bind fun t542 => (lockgatelaw03_TnumSound.j0 k a4 t529 t530 (!t542) bt525.1 bt525.2 bt527.1 bt527.2)))) else (lockgatelaw03_TnumSound.j0 k a4 t529 t530 true bt525.1 bt525.2 bt527.1 bt527.2))))) else (lockgatelaw03_TnumSound.j0 k a4 t529 t530 true bt525.1 bt525.2 bt527.1 bt527.2))))))))
theorem lockgatelaw03_TnumSound.mono_l : ∀ k, (∀ y0 y1 y2 y3 y4 y5 y6 y7, LeO (lockgatelaw03_TnumSound.j0 k y0 y1 y2 y3 y4 y5 y6 y7) (lockgatelaw03_TnumSound.j0 (k + 1) y0 y1 y2 y3 y4 y5 y6 y7)) ∧ (∀ y0 y1 y2 y3 y4, LeO (lockgatelaw03_TnumSound.j1 k y0 y1 y2 y3 y4) (lockgatelaw03_TnumSound.j1 (k + 1) y0 y1 y2 y3 y4)) ∧ (∀ y0 y1 y2 y3, LeO (lockgatelaw03_TnumSound.j2 k y0 y1 y2 y3) (lockgatelaw03_TnumSound.j2 (k + 1) y0 y1 y2 y3)) ∧ (∀ y0 y1 y2 y3, LeO (lockgatelaw03_TnumSound.l0 k y0 y1 y2 y3) (lockgatelaw03_TnumSound.l0 (k + 1) y0 y1 y2 y3))
  | 0 => ⟨fun _ _ _ _ _ _ _ _ r h => by simp [lockgatelaw03_TnumSound.j0] at h, fun _ _ _ _ _ r h => by simp [lockgatelaw03_TnumSound.j1] at h, fun _ _ _ _ r h => by simp [lockgatelaw03_TnumSound.j2] at h, fun _ _ _ _ r h => by simp [lockgatelaw03_TnumSound.l0] at h⟩
  | k + 1 => by
    obtain ⟨ih0, ih1, ih2, ih3⟩ := lockgatelaw03_TnumSound.mono_l k
    refine ⟨?_, ?_, ?_, ?_⟩
    · intro y0 y1 y2 y3 y4 y5 y6 y7
      unfold lockgatelaw03_TnumSound.j0
      repeat' first
      | (with_reducible exact ih0 _ _ _ _ _ _ _ _)
      | (with_reducible exact ih1 _ _ _ _ _)
      | (with_reducible exact ih2 _ _ _ _)
      | (with_reducible exact ih3 _ _ _ _)
      | (with_reducible exact lockgatelaw03_alu.mono _ _ _ _)
      | (with_reducible exact lockgatelaw03_known.mono _)
      | (with_reducible exact tnum_Mul.mono _ _ _ _ _)
      | (with_reducible exact word_Alu.mono _ _ _ _ _)
      | (with_reducible exact LeO.refl _)
      | (with_reducible exact LeO.none _)
      | (with_reducible refine LeO.ite ?_ ?_)
      | (with_reducible refine LeO.bind ?_ (fun _ => ?_))
      | exact ih0 _ _ _ _ _ _ _ _
      | exact ih1 _ _ _ _ _
      | exact ih2 _ _ _ _
      | exact ih3 _ _ _ _
      | exact lockgatelaw03_alu.mono _ _ _ _
      | exact lockgatelaw03_known.mono _
      | exact tnum_Mul.mono _ _ _ _ _
      | exact word_Alu.mono _ _ _ _ _
      | exact LeO.none _
      | refine LeO.ite ?_ ?_
      | refine LeO.bind ?_ (fun _ => ?_)
    · intro y0 y1 y2 y3 y4
      unfold lockgatelaw03_TnumSound.j1
      repeat' first
      | (with_reducible exact ih0 _ _ _ _ _ _ _ _)
      | (with_reducible exact ih1 _ _ _ _ _)
      | (with_reducible exact ih2 _ _ _ _)
      | (with_reducible exact ih3 _ _ _ _)
      | (with_reducible exact lockgatelaw03_alu.mono _ _ _ _)
      | (with_reducible exact lockgatelaw03_known.mono _)
      | (with_reducible exact tnum_Mul.mono _ _ _ _ _)
      | (with_reducible exact word_Alu.mono _ _ _ _ _)
      | (with_reducible exact LeO.refl _)
      | (with_reducible exact LeO.none _)
      | (with_reducible refine LeO.ite ?_ ?_)
      | (with_reducible refine LeO.bind ?_ (fun _ => ?_))
      | exact ih0 _ _ _ _ _ _ _ _
      | exact ih1 _ _ _ _ _
      | exact ih2 _ _ _ _
      | exact ih3 _ _ _ _
      | exact lockgatelaw03_alu.mono _ _ _ _
      | exact lockgatelaw03_known.mono _
      | exact tnum_Mul.mono _ _ _ _ _
      | exact word_Alu.mono _ _ _ _ _
      | exact LeO.none _
      | refine LeO.ite ?_ ?_
      | refine LeO.bind ?_ (fun _ => ?_)
    · intro y0 y1 y2 y3
      unfold lockgatelaw03_TnumSound.j2
      repeat' first
      | (with_reducible exact ih0 _ _ _ _ _ _ _ _)
      | (with_reducible exact ih1 _ _ _ _ _)
      | (with_reducible exact ih2 _ _ _ _)
      | (with_reducible exact ih3 _ _ _ _)
      | (with_reducible exact lockgatelaw03_alu.mono _ _ _ _)
      | (with_reducible exact lockgatelaw03_known.mono _)
      | (with_reducible exact tnum_Mul.mono _ _ _ _ _)
      | (with_reducible exact word_Alu.mono _ _ _ _ _)
      | (with_reducible exact LeO.refl _)
      | (with_reducible exact LeO.none _)
      | (with_reducible refine LeO.ite ?_ ?_)
      | (with_reducible refine LeO.bind ?_ (fun _ => ?_))
      | exact ih0 _ _ _ _ _ _ _ _
      | exact ih1 _ _ _ _ _
      | exact ih2 _ _ _ _
      | exact ih3 _ _ _ _
      | exact lockgatelaw03_alu.mono _ _ _ _
      | exact lockgatelaw03_known.mono _
      | exact tnum_Mul.mono _ _ _ _ _
      | exact word_Alu.mono _ _ _ _ _
      | exact LeO.none _
      | refine LeO.ite ?_ ?_
      | refine LeO.bind ?_ (fun _ => ?_)
    · intro y0 y1 y2 y3
      unfold lockgatelaw03_TnumSound.l0
      repeat' first
      | (with_reducible exact ih0 _ _ _ _ _ _ _ _)
      | (with_reducible exact ih1 _ _ _ _ _)
      | (with_reducible exact ih2 _ _ _ _)
      | (with_reducible exact ih3 _ _ _ _)
      | (with_reducible exact lockgatelaw03_alu.mono _ _ _ _)
      | (with_reducible exact lockgatelaw03_known.mono _)
      | (with_reducible exact tnum_Mul.mono _ _ _ _ _)
      | (with_reducible exact word_Alu.mono _ _ _ _ _)
      | (with_reducible exact LeO.refl _)
      | (with_reducible exact LeO.none _)
      | (with_reducible refine LeO.ite ?_ ?_)
      | (with_reducible refine LeO.bind ?_ (fun _ => ?_))
      | exact ih0 _ _ _ _ _ _ _ _
      | exact ih1 _ _ _ _ _
      | exact ih2 _ _ _ _
      | exact ih3 _ _ _ _
      | exact lockgatelaw03_alu.mono _ _ _ _
      | exact lockgatelaw03_known.mono _
      | exact tnum_Mul.mono _ _ _ _ _
      | exact word_Alu.mono _ _ _ _ _
      | exact LeO.none _
      | refine LeO.ite ?_ ?_
      | refine LeO.bind ?_ (fun _ => ?_)
theorem lockgatelaw03_TnumSound.mono : ∀ a0 a1 a2 a3 a4 a5 a6 k, LeO (lockgatelaw03_TnumSound.f k a0 a1 a2 a3 a4 a5 a6) (lockgatelaw03_TnumSound.f (k + 1) a0 a1 a2 a3 a4 a5 a6) := by
  intro a0 a1 a2 a3 a4 a5 a6 k
  obtain ⟨ih0, ih1, ih2, ih3⟩ := lockgatelaw03_TnumSound.mono_l k
  unfold lockgatelaw03_TnumSound.f
  repeat' first
      | (with_reducible exact ih0 _ _ _ _ _ _ _ _)
      | (with_reducible exact ih1 _ _ _ _ _)
      | (with_reducible exact ih2 _ _ _ _)
      | (with_reducible exact ih3 _ _ _ _)
      | (with_reducible exact lockgatelaw03_alu.mono _ _ _ _)
      | (with_reducible exact lockgatelaw03_known.mono _)
      | (with_reducible exact tnum_Mul.mono _ _ _ _ _)
      | (with_reducible exact word_Alu.mono _ _ _ _ _)
      | (with_reducible exact LeO.refl _)
      | (with_reducible exact LeO.none _)
      | (with_reducible refine LeO.ite ?_ ?_)
      | (with_reducible refine LeO.bind ?_ (fun _ => ?_))
      | exact ih0 _ _ _ _ _ _ _ _
      | exact ih1 _ _ _ _ _
      | exact ih2 _ _ _ _
      | exact ih3 _ _ _ _
      | exact lockgatelaw03_alu.mono _ _ _ _
      | exact lockgatelaw03_known.mono _
      | exact tnum_Mul.mono _ _ _ _ _
      | exact word_Alu.mono _ _ _ _ _
      | exact LeO.none _
      | refine LeO.ite ?_ ?_
      | refine LeO.bind ?_ (fun _ => ?_)
def lockgatelaw03_TnumSound.T16 : Bool × List (List Nat × List Nat) := (true, [([], []), ([], []), ([0, 1], [0, 1]), ([], []), ([], []), ([4], [4]), ([5], [5]), ([6], [6]), ([3, 7], [3, 7]), ([2, 8, 2], [2, 8]), ([9], [9])])
def lockgatelaw03_TnumSound.B16 : List Nat := [0, 0, 3, 0, 0, 16, 48, 112, 248, 511, 1023]
theorem lockgatelaw03_TnumSound.tab16 : rtab .any (opsOf Try.f10 16) = lockgatelaw03_TnumSound.T16 := by kernel_rfl
theorem lockgatelaw03_TnumSound.bits16 : waitsOk lockgatelaw03_TnumSound.T16.2 lockgatelaw03_TnumSound.B16 = true := by kernel_rfl
set_option maxHeartbeats 8000000 in
set_option maxRecDepth 100000 in
theorem lockgatelaw03_TnumSound.calls (k : Nat) (a0_0 : Int) (a0_1 : Int) (a1_0 : Int) (a1_1 : Int) (a2 : Int) (a3 : Int) (a4 : Int) (r : Bool) (w : World) (HRT : Aside0 (r = true)) (h : lockgatelaw03_TnumSound.f k a0_0 a0_1 a1_0 a1_1 a2 a3 a4 = some r) :
    Calls Try.prog 10 #[.agg #[.int .u64 a0_0, .int .u64 a0_1], .agg #[.int .u64 a1_0, .int .u64 a1_1], .int .u64 a2, .int .u64 a3, .int .i64 a4] w fun e w' => e = .returned (.bool r) ∧ Below w.heap.size w w' := by
  have hu24 := Try.underlying24
  have HB := Aside0.mk (Below.refl w.heap.size w)
  have H : ((lockgatelaw03_May.f a0_0 a0_1).bind fun bt525 => ((lockgatelaw03_May.f a1_0 a1_1).bind fun bt527 => ((lockgatelaw03_one.f bt525.1 bt525.2 a2).bind fun t529 => ((lockgatelaw03_one.f bt527.1 bt527.2 a3).bind fun t530 => ((tnum_Add.f bt525.1 bt525.2 bt527.1 bt527.2).bind fun bt531 => ((lockgatelaw03_alu.f k 0 t529 t530).bind fun t533 => ((lockgatelaw03_has.f bt531.1 bt531.2 t533).bind fun t534 => (if t534 = true then ((tnum_Sub.f bt525.1 bt525.2 bt527.1 bt527.2).bind fun bt535 => ((lockgatelaw03_alu.f k 1 t529 t530).bind fun t537 => ((lockgatelaw03_has.f bt535.1 bt535.2 t537).bind fun t538 => (if t538 = true then ((tnum_Mul.f k bt525.1 bt525.2 bt527.1 bt527.2).bind fun bt539 => ((lockgatelaw03_alu.f k 2 t529 t530).bind fun t541 => ((lockgatelaw03_has.f bt539.1 bt539.2 t541).bind fun t542 => (lockgatelaw03_TnumSound.j0 k a4 t529 t530 (!t542) bt525.1 bt525.2 bt527.1 bt527.2)))) else (lockgatelaw03_TnumSound.j0 k a4 t529 t530 true bt525.1 bt525.2 bt527.1 bt527.2))))) else (lockgatelaw03_TnumSound.j0 k a4 t529 t530 true bt525.1 bt525.2 bt527.1 bt527.2))))))))) = some r := h
  clear h
  replace H := Option.bind_eq_some_iff.mp H
  obtain ⟨⟨t525, t526⟩, A60, H⟩ := H
  replace H : ((lockgatelaw03_May.f a1_0 a1_1).bind fun bt527 => ((lockgatelaw03_one.f t525 t526 a2).bind fun t529 => ((lockgatelaw03_one.f bt527.1 bt527.2 a3).bind fun t530 => ((tnum_Add.f t525 t526 bt527.1 bt527.2).bind fun bt531 => ((lockgatelaw03_alu.f k 0 t529 t530).bind fun t533 => ((lockgatelaw03_has.f bt531.1 bt531.2 t533).bind fun t534 => (if t534 = true then ((tnum_Sub.f t525 t526 bt527.1 bt527.2).bind fun bt535 => ((lockgatelaw03_alu.f k 1 t529 t530).bind fun t537 => ((lockgatelaw03_has.f bt535.1 bt535.2 t537).bind fun t538 => (if t538 = true then ((tnum_Mul.f k t525 t526 bt527.1 bt527.2).bind fun bt539 => ((lockgatelaw03_alu.f k 2 t529 t530).bind fun t541 => ((lockgatelaw03_has.f bt539.1 bt539.2 t541).bind fun t542 => (lockgatelaw03_TnumSound.j0 k a4 t529 t530 (!t542) t525 t526 bt527.1 bt527.2)))) else (lockgatelaw03_TnumSound.j0 k a4 t529 t530 true t525 t526 bt527.1 bt527.2))))) else (lockgatelaw03_TnumSound.j0 k a4 t529 t530 true t525 t526 bt527.1 bt527.2)))))))) = some r := H
  have A6 := Aside0.mk A60
  clear A60
  replace H := Option.bind_eq_some_iff.mp H
  obtain ⟨⟨t527, t528⟩, A70, H⟩ := H
  replace H : ((lockgatelaw03_one.f t525 t526 a2).bind fun t529 => ((lockgatelaw03_one.f t527 t528 a3).bind fun t530 => ((tnum_Add.f t525 t526 t527 t528).bind fun bt531 => ((lockgatelaw03_alu.f k 0 t529 t530).bind fun t533 => ((lockgatelaw03_has.f bt531.1 bt531.2 t533).bind fun t534 => (if t534 = true then ((tnum_Sub.f t525 t526 t527 t528).bind fun bt535 => ((lockgatelaw03_alu.f k 1 t529 t530).bind fun t537 => ((lockgatelaw03_has.f bt535.1 bt535.2 t537).bind fun t538 => (if t538 = true then ((tnum_Mul.f k t525 t526 t527 t528).bind fun bt539 => ((lockgatelaw03_alu.f k 2 t529 t530).bind fun t541 => ((lockgatelaw03_has.f bt539.1 bt539.2 t541).bind fun t542 => (lockgatelaw03_TnumSound.j0 k a4 t529 t530 (!t542) t525 t526 t527 t528)))) else (lockgatelaw03_TnumSound.j0 k a4 t529 t530 true t525 t526 t527 t528))))) else (lockgatelaw03_TnumSound.j0 k a4 t529 t530 true t525 t526 t527 t528))))))) = some r := H
  have A7 := Aside0.mk A70
  clear A70
  replace H := Option.bind_eq_some_iff.mp H
  obtain ⟨t529, A80, H⟩ := H
  replace H : ((lockgatelaw03_one.f t527 t528 a3).bind fun t530 => ((tnum_Add.f t525 t526 t527 t528).bind fun bt531 => ((lockgatelaw03_alu.f k 0 t529 t530).bind fun t533 => ((lockgatelaw03_has.f bt531.1 bt531.2 t533).bind fun t534 => (if t534 = true then ((tnum_Sub.f t525 t526 t527 t528).bind fun bt535 => ((lockgatelaw03_alu.f k 1 t529 t530).bind fun t537 => ((lockgatelaw03_has.f bt535.1 bt535.2 t537).bind fun t538 => (if t538 = true then ((tnum_Mul.f k t525 t526 t527 t528).bind fun bt539 => ((lockgatelaw03_alu.f k 2 t529 t530).bind fun t541 => ((lockgatelaw03_has.f bt539.1 bt539.2 t541).bind fun t542 => (lockgatelaw03_TnumSound.j0 k a4 t529 t530 (!t542) t525 t526 t527 t528)))) else (lockgatelaw03_TnumSound.j0 k a4 t529 t530 true t525 t526 t527 t528))))) else (lockgatelaw03_TnumSound.j0 k a4 t529 t530 true t525 t526 t527 t528)))))) = some r := H
  have A8 := Aside0.mk A80
  clear A80
  replace H := Option.bind_eq_some_iff.mp H
  obtain ⟨t530, A90, H⟩ := H
  replace H : ((tnum_Add.f t525 t526 t527 t528).bind fun bt531 => ((lockgatelaw03_alu.f k 0 t529 t530).bind fun t533 => ((lockgatelaw03_has.f bt531.1 bt531.2 t533).bind fun t534 => (if t534 = true then ((tnum_Sub.f t525 t526 t527 t528).bind fun bt535 => ((lockgatelaw03_alu.f k 1 t529 t530).bind fun t537 => ((lockgatelaw03_has.f bt535.1 bt535.2 t537).bind fun t538 => (if t538 = true then ((tnum_Mul.f k t525 t526 t527 t528).bind fun bt539 => ((lockgatelaw03_alu.f k 2 t529 t530).bind fun t541 => ((lockgatelaw03_has.f bt539.1 bt539.2 t541).bind fun t542 => (lockgatelaw03_TnumSound.j0 k a4 t529 t530 (!t542) t525 t526 t527 t528)))) else (lockgatelaw03_TnumSound.j0 k a4 t529 t530 true t525 t526 t527 t528))))) else (lockgatelaw03_TnumSound.j0 k a4 t529 t530 true t525 t526 t527 t528))))) = some r := H
  have A9 := Aside0.mk A90
  clear A90
  have HC10 := Aside0.mk H
  clear H
  go_enter Try.func10, Try.ntmps10
  go_upto_region 5 with (first | ((with_reducible refine gate_dst (N := 5) rfl ?_); refine box_event ?hg (N := 5) ?hd (cs := #[.int .u64 a0_0, .int .u64 a0_1]) (t := 24) ?hr ?_; (case hd => rfl); (case hg => rfl); (case hr => first | (go_simp; done) | (go_simp; rfl)); intro gb523 hg w11 hbox hb; have n0_ := Aside0.mk (below_step (by repeat (first | (with_reducible first | exact HB.out | apply lA_21 | apply lN_21 | apply lD_21) | exact HB.out)) hb); have n1_ := Aside0.mk (hbox); have n2_ := Aside0.mk ((by rw [hg]; exact (below_size (by repeat (first | (with_reducible first | exact HB.out | apply lA_21 | apply lN_21 | apply lD_21) | exact HB.out))) : w.heap.size ≤ gb523)); have n3_ := Aside0.mk ((by rw [hg]; exact (below_size (by repeat (first | (with_reducible first | exact HB.out | apply lA_21 | apply lN_21 | apply lD_21) | exact HB.out))) : w.heap.size ≤ gb523)); clear HB; have HB := n0_; have BK523 := n1_; have GW523 := n2_; have GE523 := n3_; clear n0_ n1_ n2_ n3_; clear hb hbox hg) | ((with_reducible refine gate_dst (N := 6) rfl ?_); refine box_event ?hg (N := 6) ?hd (cs := #[.int .u64 a1_0, .int .u64 a1_1]) (t := 24) ?hr ?_; (case hd => rfl); (case hg => rfl); (case hr => first | (go_simp; done) | (go_simp; rfl)); intro gb524 hg w12 hbox hb; have n0_ := Aside0.mk (blk_below (g := gb523) (o := .cells #[.int .u64 a0_0, .int .u64 a0_1] 24 (0, 0)) (by (with_reducible repeat (first | apply bN_21 | apply bD_21 | apply bA_21)); exact BK523.out) hb); have n1_ := Aside0.mk (below_step (by repeat (first | (with_reducible first | exact HB.out | apply lA_21 | apply lN_21 | apply lD_21 | refine lS_21 ?_ GE523.out) | exact HB.out)) hb); have n2_ := Aside0.mk (hbox); have n3_ := Aside0.mk ((by rw [hg]; exact (below_size (by repeat (first | (with_reducible first | exact HB.out | apply lA_21 | apply lN_21 | apply lD_21 | refine lS_21 ?_ GE523.out) | exact HB.out))) : w.heap.size ≤ gb524)); have n4_ := Aside0.mk ((by rw [hg]; exact (below_size (by repeat (first | (with_reducible first | exact HB.out | apply lA_21 | apply lN_21 | apply lD_21 | refine lS_21 ?_ GE523.out) | exact HB.out))) : w.heap.size ≤ gb524)); have n5_ := Aside0.mk ((by rw [hg]; exact Nat.ne_of_lt (blk_lt (g := gb523) (o := .cells #[.int .u64 a0_0, .int .u64 a0_1] 24 (0, 0)) (by (with_reducible repeat (first | apply bN_21 | apply bD_21 | apply bA_21)); exact BK523.out)) : gb523 ≠ gb524)); have n6_ := Aside0.mk ((by rw [hg]; exact Nat.ne_of_gt (blk_lt (g := gb523) (o := .cells #[.int .u64 a0_0, .int .u64 a0_1] 24 (0, 0)) (by (with_reducible repeat (first | apply bN_21 | apply bD_21 | apply bA_21)); exact BK523.out)) : gb524 ≠ gb523)); clear BK523; clear HB; have BK523 := n0_; have HB := n1_; have BK524 := n2_; have GW524 := n3_; have GE524 := n4_; have NB523_524 := n5_; have NB524_523 := n6_; clear n0_ n1_ n2_ n3_ n4_ n5_ n6_; clear hb hbox hg; have hnb13 := NB523_524.out; have hnc13 := NB524_523.out; have hcz14_0 : w12.cell? ⟨gb523, 0, none⟩ = some (.int .u64 a0_0) := (blk_cell BK523.out 0).trans rfl; have hcz14_1 : w12.cell? ⟨gb523, 1, none⟩ = some (.int .u64 a0_1) := (blk_cell BK523.out 1).trans rfl; have hfz14_0 := blk_frozen BK523.out 0; have hfz14_1 := blk_frozen BK523.out 1) | ((with_reducible refine gate_callee (f := 12) rfl ?_); refine goesL_ (some 18) rfl rfl Try.func12 (by kernel_rfl) rfl #[.agg #[.int .u64 a0_0, .int .u64 a0_1]] rfl (by (try simp only [List.map_toArray, List.map_cons, List.map_nil]); first | done | rfl) ?_; (with_reducible refine (lockgatelaw03_May.calls a0_0 a0_1 t525 t526 _ A6.out).mono ?_); rintro e w15 ⟨rfl, hb⟩; refine ⟨_, rfl, ?_⟩; have n0_ := Aside0.mk (blk_below (g := gb523) (o := .cells #[.int .u64 a0_0, .int .u64 a0_1] 24 (0, 0)) (by (with_reducible repeat (first | apply bN_21 | apply bD_21 | apply bA_21)); exact BK523.out) hb); have n1_ := Aside0.mk (blk_below (g := gb524) (o := .cells #[.int .u64 a1_0, .int .u64 a1_1] 24 (0, 0)) (by (with_reducible repeat (first | apply bN_21 | apply bD_21 | apply bA_21)); exact BK524.out) hb); have n2_ := Aside0.mk (below_step (by repeat (first | (with_reducible first | exact HB.out | apply lA_21 | apply lN_21 | apply lD_21 | refine lS_21 ?_ GE523.out | refine lS_21 ?_ GE524.out) | exact HB.out)) hb); clear BK523; clear BK524; clear HB; have BK523 := n0_; have BK524 := n1_; have HB := n2_; clear n0_ n1_ n2_; (try clear hb); (try clear hb2); (try clear hk); (try clear hi); have hcz16_0 : w15.cell? ⟨gb523, 0, none⟩ = some (.int .u64 a0_0) := (blk_cell BK523.out 0).trans rfl; have hcz16_1 : w15.cell? ⟨gb523, 1, none⟩ = some (.int .u64 a0_1) := (blk_cell BK523.out 1).trans rfl; have hfz16_0 := blk_frozen BK523.out 0; have hfz16_1 := blk_frozen BK523.out 1; have hcz17_0 : w15.cell? ⟨gb524, 0, none⟩ = some (.int .u64 a1_0) := (blk_cell BK524.out 0).trans rfl; have hcz17_1 : w15.cell? ⟨gb524, 1, none⟩ = some (.int .u64 a1_1) := (blk_cell BK524.out 1).trans rfl; have hfz17_0 := blk_frozen BK524.out 0; have hfz17_1 := blk_frozen BK524.out 1) | ((with_reducible refine gate_callee (f := 12) rfl ?_); refine goesL_ (some 20) rfl rfl Try.func12 (by kernel_rfl) rfl #[.agg #[.int .u64 a1_0, .int .u64 a1_1]] rfl (by (try simp only [List.map_toArray, List.map_cons, List.map_nil]); first | done | rfl) ?_; (with_reducible refine (lockgatelaw03_May.calls a1_0 a1_1 t527 t528 _ A7.out).mono ?_); rintro e w18 ⟨rfl, hb⟩; refine ⟨_, rfl, ?_⟩; have n0_ := Aside0.mk (blk_below (g := gb523) (o := .cells #[.int .u64 t525, .int .u64 t526] 24 (0, 0)) (by (with_reducible repeat (first | apply bN_21 | apply bD_21 | apply bA_21)); refine blk_put (cs := #[.int .u64 t525, .int .u64 a0_1]) ?_ 1 _ rfl; (with_reducible repeat (first | apply bN_21 | apply bD_21 | apply bA_21)); refine blk_put (cs := #[.int .u64 a0_0, .int .u64 a0_1]) ?_ 0 _ rfl; (with_reducible repeat (first | apply bN_21 | apply bD_21 | apply bA_21)); exact BK523.out) hb); have n1_ := Aside0.mk (blk_below (g := gb524) (o := .cells #[.int .u64 a1_0, .int .u64 a1_1] 24 (0, 0)) (by (with_reducible repeat (first | apply bN_21 | apply bD_21 | apply bA_21)); refine blk_far ?_ NB524_523.out _; (with_reducible repeat (first | apply bN_21 | apply bD_21 | apply bA_21)); refine blk_far ?_ NB524_523.out _; (with_reducible repeat (first | apply bN_21 | apply bD_21 | apply bA_21)); exact BK524.out) hb); have n2_ := Aside0.mk (below_step (by repeat (first | (with_reducible first | exact HB.out | apply lA_21 | apply lN_21 | apply lD_21 | refine lS_21 ?_ GE523.out | refine lS_21 ?_ GE524.out) | exact HB.out)) hb); clear BK523; clear BK524; clear HB; have BK523 := n0_; have BK524 := n1_; have HB := n2_; clear n0_ n1_ n2_; (try clear hb); (try clear hb2); (try clear hk); (try clear hi); have hcz19_0 : w18.cell? ⟨gb524, 0, none⟩ = some (.int .u64 a1_0) := (blk_cell BK524.out 0).trans rfl; have hcz19_1 : w18.cell? ⟨gb524, 1, none⟩ = some (.int .u64 a1_1) := (blk_cell BK524.out 1).trans rfl; have hfz19_0 := blk_frozen BK524.out 0; have hfz19_1 := blk_frozen BK524.out 1; have hcz20_0 : w18.cell? ⟨gb523, 0, none⟩ = some (.int .u64 t525) := (blk_cell BK523.out 0).trans rfl; have hcz20_1 : w18.cell? ⟨gb523, 1, none⟩ = some (.int .u64 t526) := (blk_cell BK523.out 1).trans rfl; have hfz20_0 := blk_frozen BK523.out 0; have hfz20_1 := blk_frozen BK523.out 1) | ((with_reducible refine gate_callee (f := 15) rfl ?_); refine goesL_ (some 23) rfl rfl Try.func15 (by kernel_rfl) rfl #[.agg #[.int .u64 t525, .int .u64 t526], .int .u64 a2] rfl (by (try simp only [List.map_toArray, List.map_cons, List.map_nil]); first | done | rfl) ?_; (with_reducible refine (lockgatelaw03_one.calls t525 t526 a2 t529 _ A8.out).mono ?_); rintro e w21 ⟨rfl, hb⟩; refine ⟨_, rfl, ?_⟩; have n0_ := Aside0.mk (blk_below (g := gb523) (o := .cells #[.int .u64 t525, .int .u64 t526] 24 (0, 0)) (by (with_reducible repeat (first | apply bN_21 | apply bD_21 | apply bA_21)); refine blk_far ?_ NB523_524.out _; (with_reducible repeat (first | apply bN_21 | apply bD_21 | apply bA_21)); refine blk_far ?_ NB523_524.out _; (with_reducible repeat (first | apply bN_21 | apply bD_21 | apply bA_21)); exact BK523.out) hb); have n1_ := Aside0.mk (blk_below (g := gb524) (o := .cells #[.int .u64 t527, .int .u64 t528] 24 (0, 0)) (by (with_reducible repeat (first | apply bN_21 | apply bD_21 | apply bA_21)); refine blk_put (cs := #[.int .u64 t527, .int .u64 a1_1]) ?_ 1 _ rfl; (with_reducible repeat (first | apply bN_21 | apply bD_21 | apply bA_21)); refine blk_put (cs := #[.int .u64 a1_0, .int .u64 a1_1]) ?_ 0 _ rfl; (with_reducible repeat (first | apply bN_21 | apply bD_21 | apply bA_21)); exact BK524.out) hb); have n2_ := Aside0.mk (below_step (by repeat (first | (with_reducible first | exact HB.out | apply lA_21 | apply lN_21 | apply lD_21 | refine lS_21 ?_ GE523.out | refine lS_21 ?_ GE524.out) | exact HB.out)) hb); clear BK523; clear BK524; clear HB; have BK523 := n0_; have BK524 := n1_; have HB := n2_; clear n0_ n1_ n2_; (try clear hb); (try clear hb2); (try clear hk); (try clear hi); have hcz22_0 : w21.cell? ⟨gb524, 0, none⟩ = some (.int .u64 t527) := (blk_cell BK524.out 0).trans rfl; have hcz22_1 : w21.cell? ⟨gb524, 1, none⟩ = some (.int .u64 t528) := (blk_cell BK524.out 1).trans rfl; have hfz22_0 := blk_frozen BK524.out 0; have hfz22_1 := blk_frozen BK524.out 1) | ((with_reducible refine gate_callee (f := 15) rfl ?_); refine goesL_ (some 26) rfl rfl Try.func15 (by kernel_rfl) rfl #[.agg #[.int .u64 t527, .int .u64 t528], .int .u64 a3] rfl (by (try simp only [List.map_toArray, List.map_cons, List.map_nil]); first | done | rfl) ?_; (with_reducible refine (lockgatelaw03_one.calls t527 t528 a3 t530 _ A9.out).mono ?_); rintro e w23 ⟨rfl, hb⟩; refine ⟨_, rfl, ?_⟩; have n0_ := Aside0.mk (blk_below (g := gb523) (o := .cells #[.int .u64 t525, .int .u64 t526] 24 (0, 0)) (by (with_reducible repeat (first | apply bN_21 | apply bD_21 | apply bA_21)); exact BK523.out) hb); have n1_ := Aside0.mk (blk_below (g := gb524) (o := .cells #[.int .u64 t527, .int .u64 t528] 24 (0, 0)) (by (with_reducible repeat (first | apply bN_21 | apply bD_21 | apply bA_21)); exact BK524.out) hb); have n2_ := Aside0.mk (below_step (by repeat (first | (with_reducible first | exact HB.out | apply lA_21 | apply lN_21 | apply lD_21 | refine lS_21 ?_ GE523.out | refine lS_21 ?_ GE524.out) | exact HB.out)) hb); clear BK523; clear BK524; clear HB; have BK523 := n0_; have BK524 := n1_; have HB := n2_; clear n0_ n1_ n2_; (try clear hb); (try clear hb2); (try clear hk); (try clear hi)))
  (try simp only [Act.put, List.setIfInBounds_toArray, List.set_cons_zero, List.set_cons_succ])
  go_cut [54] (fun v54 wc => ∃ (kq : Nat) (x54_9 : Bool), v54 = .bool x54_9 ∧ Aside0 (lockgatelaw03_TnumSound.j0 kq a4 t529 t530 x54_9 t525 t526 t527 t528 = some r) ∧ Aside0 (kq ≤ k) ∧ Aside0 (wc.heap[gb523]? = some (.cells #[.int .u64 t525, .int .u64 t526] 24 (0, 0))) ∧ Aside0 (wc.heap[gb524]? = some (.cells #[.int .u64 t527, .int .u64 t528] 24 (0, 0))) ∧ Aside0 (Below w.heap.size w wc))
  case first =>
    have H := HC10.out
    clear HC10
    replace H := Option.bind_eq_some_iff.mp H
    obtain ⟨⟨t531, t532⟩, A240, H⟩ := H
    replace H : ((lockgatelaw03_alu.f k 0 t529 t530).bind fun t533 => ((lockgatelaw03_has.f t531 t532 t533).bind fun t534 => (if t534 = true then ((tnum_Sub.f t525 t526 t527 t528).bind fun bt535 => ((lockgatelaw03_alu.f k 1 t529 t530).bind fun t537 => ((lockgatelaw03_has.f bt535.1 bt535.2 t537).bind fun t538 => (if t538 = true then ((tnum_Mul.f k t525 t526 t527 t528).bind fun bt539 => ((lockgatelaw03_alu.f k 2 t529 t530).bind fun t541 => ((lockgatelaw03_has.f bt539.1 bt539.2 t541).bind fun t542 => (lockgatelaw03_TnumSound.j0 k a4 t529 t530 (!t542) t525 t526 t527 t528)))) else (lockgatelaw03_TnumSound.j0 k a4 t529 t530 true t525 t526 t527 t528))))) else (lockgatelaw03_TnumSound.j0 k a4 t529 t530 true t525 t526 t527 t528)))) = some r := H
    have A24 := Aside0.mk A240
    clear A240
    replace H := Option.bind_eq_some_iff.mp H
    obtain ⟨t533, A250, H⟩ := H
    replace H : ((lockgatelaw03_has.f t531 t532 t533).bind fun t534 => (if t534 = true then ((tnum_Sub.f t525 t526 t527 t528).bind fun bt535 => ((lockgatelaw03_alu.f k 1 t529 t530).bind fun t537 => ((lockgatelaw03_has.f bt535.1 bt535.2 t537).bind fun t538 => (if t538 = true then ((tnum_Mul.f k t525 t526 t527 t528).bind fun bt539 => ((lockgatelaw03_alu.f k 2 t529 t530).bind fun t541 => ((lockgatelaw03_has.f bt539.1 bt539.2 t541).bind fun t542 => (lockgatelaw03_TnumSound.j0 k a4 t529 t530 (!t542) t525 t526 t527 t528)))) else (lockgatelaw03_TnumSound.j0 k a4 t529 t530 true t525 t526 t527 t528))))) else (lockgatelaw03_TnumSound.j0 k a4 t529 t530 true t525 t526 t527 t528))) = some r := H
    have A25 := Aside0.mk A250
    clear A250
    replace H := Option.bind_eq_some_iff.mp H
    obtain ⟨t534, A260, H⟩ := H
    replace H : (if t534 = true then ((tnum_Sub.f t525 t526 t527 t528).bind fun bt535 => ((lockgatelaw03_alu.f k 1 t529 t530).bind fun t537 => ((lockgatelaw03_has.f bt535.1 bt535.2 t537).bind fun t538 => (if t538 = true then ((tnum_Mul.f k t525 t526 t527 t528).bind fun bt539 => ((lockgatelaw03_alu.f k 2 t529 t530).bind fun t541 => ((lockgatelaw03_has.f bt539.1 bt539.2 t541).bind fun t542 => (lockgatelaw03_TnumSound.j0 k a4 t529 t530 (!t542) t525 t526 t527 t528)))) else (lockgatelaw03_TnumSound.j0 k a4 t529 t530 true t525 t526 t527 t528))))) else (lockgatelaw03_TnumSound.j0 k a4 t529 t530 true t525 t526 t527 t528)) = some r := H
    have A26 := Aside0.mk A260
    clear A260
    by_cases c27 : t534 = true
    · subst c27
      have H1 : ((tnum_Sub.f t525 t526 t527 t528).bind fun bt535 => ((lockgatelaw03_alu.f k 1 t529 t530).bind fun t537 => ((lockgatelaw03_has.f bt535.1 bt535.2 t537).bind fun t538 => (if t538 = true then ((tnum_Mul.f k t525 t526 t527 t528).bind fun bt539 => ((lockgatelaw03_alu.f k 2 t529 t530).bind fun t541 => ((lockgatelaw03_has.f bt539.1 bt539.2 t541).bind fun t542 => (lockgatelaw03_TnumSound.j0 k a4 t529 t530 (!t542) t525 t526 t527 t528)))) else (lockgatelaw03_TnumSound.j0 k a4 t529 t530 true t525 t526 t527 t528))))) = some r := by rw [if_pos rfl] at H; exact H
      clear H
      have H := H1
      clear H1
      replace H := Option.bind_eq_some_iff.mp H
      obtain ⟨⟨t535, t536⟩, A280, H⟩ := H
      replace H : ((lockgatelaw03_alu.f k 1 t529 t530).bind fun t537 => ((lockgatelaw03_has.f t535 t536 t537).bind fun t538 => (if t538 = true then ((tnum_Mul.f k t525 t526 t527 t528).bind fun bt539 => ((lockgatelaw03_alu.f k 2 t529 t530).bind fun t541 => ((lockgatelaw03_has.f bt539.1 bt539.2 t541).bind fun t542 => (lockgatelaw03_TnumSound.j0 k a4 t529 t530 (!t542) t525 t526 t527 t528)))) else (lockgatelaw03_TnumSound.j0 k a4 t529 t530 true t525 t526 t527 t528)))) = some r := H
      have A28 := Aside0.mk A280
      clear A280
      replace H := Option.bind_eq_some_iff.mp H
      obtain ⟨t537, A290, H⟩ := H
      replace H : ((lockgatelaw03_has.f t535 t536 t537).bind fun t538 => (if t538 = true then ((tnum_Mul.f k t525 t526 t527 t528).bind fun bt539 => ((lockgatelaw03_alu.f k 2 t529 t530).bind fun t541 => ((lockgatelaw03_has.f bt539.1 bt539.2 t541).bind fun t542 => (lockgatelaw03_TnumSound.j0 k a4 t529 t530 (!t542) t525 t526 t527 t528)))) else (lockgatelaw03_TnumSound.j0 k a4 t529 t530 true t525 t526 t527 t528))) = some r := H
      have A29 := Aside0.mk A290
      clear A290
      replace H := Option.bind_eq_some_iff.mp H
      obtain ⟨t538, A300, H⟩ := H
      replace H : (if t538 = true then ((tnum_Mul.f k t525 t526 t527 t528).bind fun bt539 => ((lockgatelaw03_alu.f k 2 t529 t530).bind fun t541 => ((lockgatelaw03_has.f bt539.1 bt539.2 t541).bind fun t542 => (lockgatelaw03_TnumSound.j0 k a4 t529 t530 (!t542) t525 t526 t527 t528)))) else (lockgatelaw03_TnumSound.j0 k a4 t529 t530 true t525 t526 t527 t528)) = some r := H
      have A30 := Aside0.mk A300
      clear A300
      by_cases c31 : t538 = true
      · subst c31
        have H1 : ((tnum_Mul.f k t525 t526 t527 t528).bind fun bt539 => ((lockgatelaw03_alu.f k 2 t529 t530).bind fun t541 => ((lockgatelaw03_has.f bt539.1 bt539.2 t541).bind fun t542 => (lockgatelaw03_TnumSound.j0 k a4 t529 t530 (!t542) t525 t526 t527 t528)))) = some r := by rw [if_pos rfl] at H; exact H
        clear H
        have H := H1
        clear H1
        replace H := Option.bind_eq_some_iff.mp H
        obtain ⟨⟨t539, t540⟩, A320, H⟩ := H
        replace H : ((lockgatelaw03_alu.f k 2 t529 t530).bind fun t541 => ((lockgatelaw03_has.f t539 t540 t541).bind fun t542 => (lockgatelaw03_TnumSound.j0 k a4 t529 t530 (!t542) t525 t526 t527 t528))) = some r := H
        have A32 := Aside0.mk A320
        clear A320
        replace H := Option.bind_eq_some_iff.mp H
        obtain ⟨t541, A330, H⟩ := H
        replace H : ((lockgatelaw03_has.f t539 t540 t541).bind fun t542 => (lockgatelaw03_TnumSound.j0 k a4 t529 t530 (!t542) t525 t526 t527 t528)) = some r := H
        have A33 := Aside0.mk A330
        clear A330
        replace H := Option.bind_eq_some_iff.mp H
        obtain ⟨t542, A340, H⟩ := H
        replace H : (lockgatelaw03_TnumSound.j0 k a4 t529 t530 (!t542) t525 t526 t527 t528) = some r := H
        have A34 := Aside0.mk A340
        clear A340
        have H' := Aside0.mk H
        clear H
        have hnb35 := NB523_524.out
        have hnc35 := NB524_523.out
        have hcz36_0 : w23.cell? ⟨gb523, 0, none⟩ = some (.int .u64 t525) := (blk_cell BK523.out 0).trans rfl
        have hcz36_1 : w23.cell? ⟨gb523, 1, none⟩ = some (.int .u64 t526) := (blk_cell BK523.out 1).trans rfl
        have hfz36_0 := blk_frozen BK523.out 0
        have hfz36_1 := blk_frozen BK523.out 1
        have hcz37_0 : w23.cell? ⟨gb524, 0, none⟩ = some (.int .u64 t527) := (blk_cell BK524.out 0).trans rfl
        have hcz37_1 : w23.cell? ⟨gb524, 1, none⟩ = some (.int .u64 t528) := (blk_cell BK524.out 1).trans rfl
        have hfz37_0 := blk_frozen BK524.out 0
        have hfz37_1 := blk_frozen BK524.out 1
        go_wp2_with (first | ((with_reducible refine gate_callee (f := 17) rfl ?_); refine goesL_ (some 29) rfl rfl Try.func17 (by kernel_rfl) rfl #[.agg #[.int .u64 t525, .int .u64 t526], .agg #[.int .u64 t527, .int .u64 t528]] rfl (by (try simp only [List.map_toArray, List.map_cons, List.map_nil]); first | done | rfl) ?_; (with_reducible refine (tnum_Add.calls t525 t526 t527 t528 t531 t532 _ A24.out).mono ?_); rintro e w38 ⟨rfl, hb⟩; refine ⟨_, rfl, ?_⟩; have n0_ := Aside0.mk (blk_below (g := gb523) (o := .cells #[.int .u64 t525, .int .u64 t526] 24 (0, 0)) (by (with_reducible repeat (first | apply bN_21 | apply bD_21 | apply bA_21)); exact BK523.out) hb); have n1_ := Aside0.mk (blk_below (g := gb524) (o := .cells #[.int .u64 t527, .int .u64 t528] 24 (0, 0)) (by (with_reducible repeat (first | apply bN_21 | apply bD_21 | apply bA_21)); exact BK524.out) hb); have n2_ := Aside0.mk (below_step (by repeat (first | (with_reducible first | exact HB.out | apply lA_21 | apply lN_21 | apply lD_21 | refine lS_21 ?_ GE523.out | refine lS_21 ?_ GE524.out) | exact HB.out)) hb); clear BK523; clear BK524; clear HB; have BK523 := n0_; have BK524 := n1_; have HB := n2_; clear n0_ n1_ n2_; (try clear hb); (try clear hb2); (try clear hk); (try clear hi)) | ((with_reducible refine gate_callee (f := 48) rfl ?_); refine goesL_ (some 32) rfl rfl Try.func48 (by kernel_rfl) rfl #[.int .i64 0, .int .u64 t529, .int .u64 t530] rfl (by (try simp only [List.map_toArray, List.map_cons, List.map_nil]); first | done | rfl) ?_; (with_reducible refine (lockgatelaw03_alu.calls k 0 t529 t530 t533 _ A25.out).mono ?_); rintro e w' ⟨rfl, ⟨nd, rfl⟩⟩; refine ⟨_, rfl, ?_⟩) | ((with_reducible refine gate_callee (f := 49) rfl ?_); refine goesL_ (some 33) rfl rfl Try.func49 (by kernel_rfl) rfl #[.agg #[.int .u64 t531, .int .u64 t532], .int .u64 t533] rfl (by (try simp only [List.map_toArray, List.map_cons, List.map_nil]); first | done | rfl) ?_; (with_reducible refine (lockgatelaw03_has.calls t531 t532 t533 true _ A26.out).mono ?_); rintro e w39 ⟨rfl, hb⟩; refine ⟨_, rfl, ?_⟩; have n0_ := Aside0.mk (blk_below (g := gb523) (o := .cells #[.int .u64 t525, .int .u64 t526] 24 (0, 0)) (by (with_reducible repeat (first | apply bN_21 | apply bD_21 | apply bA_21)); exact BK523.out) hb); have n1_ := Aside0.mk (blk_below (g := gb524) (o := .cells #[.int .u64 t527, .int .u64 t528] 24 (0, 0)) (by (with_reducible repeat (first | apply bN_21 | apply bD_21 | apply bA_21)); exact BK524.out) hb); have n2_ := Aside0.mk (below_step (by repeat (first | (with_reducible first | exact HB.out | apply lA_21 | apply lN_21 | apply lD_21 | refine lS_21 ?_ GE523.out | refine lS_21 ?_ GE524.out) | exact HB.out)) hb); clear BK523; clear BK524; clear HB; have BK523 := n0_; have BK524 := n1_; have HB := n2_; clear n0_ n1_ n2_; (try clear hb); (try clear hb2); (try clear hk); (try clear hi); have hcz40_0 : w39.cell? ⟨gb523, 0, none⟩ = some (.int .u64 t525) := (blk_cell BK523.out 0).trans rfl; have hcz40_1 : w39.cell? ⟨gb523, 1, none⟩ = some (.int .u64 t526) := (blk_cell BK523.out 1).trans rfl; have hfz40_0 := blk_frozen BK523.out 0; have hfz40_1 := blk_frozen BK523.out 1; have hcz41_0 : w39.cell? ⟨gb524, 0, none⟩ = some (.int .u64 t527) := (blk_cell BK524.out 0).trans rfl; have hcz41_1 : w39.cell? ⟨gb524, 1, none⟩ = some (.int .u64 t528) := (blk_cell BK524.out 1).trans rfl; have hfz41_0 := blk_frozen BK524.out 0; have hfz41_1 := blk_frozen BK524.out 1) | (go_at_call 19; (with_reducible refine (tnum_Sub.calls t525 t526 t527 t528 t535 t536 _ A28.out).mono ?_); rintro e w42 ⟨rfl, hb⟩; have n0_ := Aside0.mk (blk_below (g := gb523) (o := .cells #[.int .u64 t525, .int .u64 t526] 24 (0, 0)) (by (with_reducible repeat (first | apply bN_21 | apply bD_21 | apply bA_21)); exact BK523.out) hb); have n1_ := Aside0.mk (blk_below (g := gb524) (o := .cells #[.int .u64 t527, .int .u64 t528] 24 (0, 0)) (by (with_reducible repeat (first | apply bN_21 | apply bD_21 | apply bA_21)); exact BK524.out) hb); have n2_ := Aside0.mk (below_step (by repeat (first | (with_reducible first | exact HB.out | apply lA_21 | apply lN_21 | apply lD_21 | refine lS_21 ?_ GE523.out | refine lS_21 ?_ GE524.out) | exact HB.out)) hb); clear BK523; clear BK524; clear HB; have BK523 := n0_; have BK524 := n1_; have HB := n2_; clear n0_ n1_ n2_; (try clear hb); (try clear hb2); (try clear hk); (try clear hi)) | (go_at_call 48; (with_reducible refine (lockgatelaw03_alu.calls k 1 t529 t530 t537 _ A29.out).mono ?_); rintro e w' ⟨rfl, ⟨nd, rfl⟩⟩) | (go_at_call 49; (with_reducible refine (lockgatelaw03_has.calls t535 t536 t537 true _ A30.out).mono ?_); rintro e w43 ⟨rfl, hb⟩; have n0_ := Aside0.mk (blk_below (g := gb523) (o := .cells #[.int .u64 t525, .int .u64 t526] 24 (0, 0)) (by (with_reducible repeat (first | apply bN_21 | apply bD_21 | apply bA_21)); exact BK523.out) hb); have n1_ := Aside0.mk (blk_below (g := gb524) (o := .cells #[.int .u64 t527, .int .u64 t528] 24 (0, 0)) (by (with_reducible repeat (first | apply bN_21 | apply bD_21 | apply bA_21)); exact BK524.out) hb); have n2_ := Aside0.mk (below_step (by repeat (first | (with_reducible first | exact HB.out | apply lA_21 | apply lN_21 | apply lD_21 | refine lS_21 ?_ GE523.out | refine lS_21 ?_ GE524.out) | exact HB.out)) hb); clear BK523; clear BK524; clear HB; have BK523 := n0_; have BK524 := n1_; have HB := n2_; clear n0_ n1_ n2_; (try clear hb); (try clear hb2); (try clear hk); (try clear hi); have hcz44_0 : w43.cell? ⟨gb523, 0, none⟩ = some (.int .u64 t525) := (blk_cell BK523.out 0).trans rfl; have hcz44_1 : w43.cell? ⟨gb523, 1, none⟩ = some (.int .u64 t526) := (blk_cell BK523.out 1).trans rfl; have hfz44_0 := blk_frozen BK523.out 0; have hfz44_1 := blk_frozen BK523.out 1; have hcz45_0 : w43.cell? ⟨gb524, 0, none⟩ = some (.int .u64 t527) := (blk_cell BK524.out 0).trans rfl; have hcz45_1 : w43.cell? ⟨gb524, 1, none⟩ = some (.int .u64 t528) := (blk_cell BK524.out 1).trans rfl; have hfz45_0 := blk_frozen BK524.out 0; have hfz45_1 := blk_frozen BK524.out 1) | (go_at_call 21; (with_reducible refine (tnum_Mul.calls k t525 t526 t527 t528 t539 t540 _ A32.out).mono ?_); rintro e w46 ⟨rfl, hb⟩; have n0_ := Aside0.mk (blk_below (g := gb523) (o := .cells #[.int .u64 t525, .int .u64 t526] 24 (0, 0)) (by (with_reducible repeat (first | apply bN_21 | apply bD_21 | apply bA_21)); exact BK523.out) hb); have n1_ := Aside0.mk (blk_below (g := gb524) (o := .cells #[.int .u64 t527, .int .u64 t528] 24 (0, 0)) (by (with_reducible repeat (first | apply bN_21 | apply bD_21 | apply bA_21)); exact BK524.out) hb); have n2_ := Aside0.mk (below_step (by repeat (first | (with_reducible first | exact HB.out | apply lA_21 | apply lN_21 | apply lD_21 | refine lS_21 ?_ GE523.out | refine lS_21 ?_ GE524.out) | exact HB.out)) hb); clear BK523; clear BK524; clear HB; have BK523 := n0_; have BK524 := n1_; have HB := n2_; clear n0_ n1_ n2_; (try clear hb); (try clear hb2); (try clear hk); (try clear hi)) | (go_at_call 48; (with_reducible refine (lockgatelaw03_alu.calls k 2 t529 t530 t541 _ A33.out).mono ?_); rintro e w' ⟨rfl, ⟨nd, rfl⟩⟩) | (go_at_call 49; (with_reducible refine (lockgatelaw03_has.calls t539 t540 t541 t542 _ A34.out).mono ?_); rintro e w47 ⟨rfl, hb⟩; have n0_ := Aside0.mk (blk_below (g := gb523) (o := .cells #[.int .u64 t525, .int .u64 t526] 24 (0, 0)) (by (with_reducible repeat (first | apply bN_21 | apply bD_21 | apply bA_21)); exact BK523.out) hb); have n1_ := Aside0.mk (blk_below (g := gb524) (o := .cells #[.int .u64 t527, .int .u64 t528] 24 (0, 0)) (by (with_reducible repeat (first | apply bN_21 | apply bD_21 | apply bA_21)); exact BK524.out) hb); have n2_ := Aside0.mk (below_step (by repeat (first | (with_reducible first | exact HB.out | apply lA_21 | apply lN_21 | apply lD_21 | refine lS_21 ?_ GE523.out | refine lS_21 ?_ GE524.out) | exact HB.out)) hb); clear BK523; clear BK524; clear HB; have BK523 := n0_; have BK524 := n1_; have HB := n2_; clear n0_ n1_ n2_; (try clear hb); (try clear hb2); (try clear hk); (try clear hi)))
        go_meet
        case rel => exact ⟨_, (!t542), (by first | rfl | (simp; done) | (simp [*]; done)), H', ⟨by first | omega | exact Nat.le_refl _⟩, ⟨by (with_reducible repeat (first | apply bN_21 | apply bD_21 | apply bA_21)); exact BK523.out⟩, ⟨by (with_reducible repeat (first | apply bN_21 | apply bD_21 | apply bA_21)); exact BK524.out⟩, ⟨by repeat (first | (with_reducible first | exact HB.out | apply lA_21 | apply lN_21 | apply lD_21 | refine lS_21 ?_ GE523.out | refine lS_21 ?_ GE524.out) | exact HB.out)⟩⟩
      · replace c31 := Bool.eq_false_iff.mpr c31
        subst c31
        have H1 : (lockgatelaw03_TnumSound.j0 k a4 t529 t530 true t525 t526 t527 t528) = some r := by rw [if_neg (show ¬ (false = true) by decide)] at H; exact H
        clear H
        have H := H1
        clear H1
        have H' := Aside0.mk H
        clear H
        have hnb48 := NB523_524.out
        have hnc48 := NB524_523.out
        have hcz49_0 : w23.cell? ⟨gb523, 0, none⟩ = some (.int .u64 t525) := (blk_cell BK523.out 0).trans rfl
        have hcz49_1 : w23.cell? ⟨gb523, 1, none⟩ = some (.int .u64 t526) := (blk_cell BK523.out 1).trans rfl
        have hfz49_0 := blk_frozen BK523.out 0
        have hfz49_1 := blk_frozen BK523.out 1
        have hcz50_0 : w23.cell? ⟨gb524, 0, none⟩ = some (.int .u64 t527) := (blk_cell BK524.out 0).trans rfl
        have hcz50_1 : w23.cell? ⟨gb524, 1, none⟩ = some (.int .u64 t528) := (blk_cell BK524.out 1).trans rfl
        have hfz50_0 := blk_frozen BK524.out 0
        have hfz50_1 := blk_frozen BK524.out 1
        go_wp2_with (first | ((with_reducible refine gate_callee (f := 17) rfl ?_); refine goesL_ (some 29) rfl rfl Try.func17 (by kernel_rfl) rfl #[.agg #[.int .u64 t525, .int .u64 t526], .agg #[.int .u64 t527, .int .u64 t528]] rfl (by (try simp only [List.map_toArray, List.map_cons, List.map_nil]); first | done | rfl) ?_; (with_reducible refine (tnum_Add.calls t525 t526 t527 t528 t531 t532 _ A24.out).mono ?_); rintro e w51 ⟨rfl, hb⟩; refine ⟨_, rfl, ?_⟩; have n0_ := Aside0.mk (blk_below (g := gb523) (o := .cells #[.int .u64 t525, .int .u64 t526] 24 (0, 0)) (by (with_reducible repeat (first | apply bN_21 | apply bD_21 | apply bA_21)); exact BK523.out) hb); have n1_ := Aside0.mk (blk_below (g := gb524) (o := .cells #[.int .u64 t527, .int .u64 t528] 24 (0, 0)) (by (with_reducible repeat (first | apply bN_21 | apply bD_21 | apply bA_21)); exact BK524.out) hb); have n2_ := Aside0.mk (below_step (by repeat (first | (with_reducible first | exact HB.out | apply lA_21 | apply lN_21 | apply lD_21 | refine lS_21 ?_ GE523.out | refine lS_21 ?_ GE524.out) | exact HB.out)) hb); clear BK523; clear BK524; clear HB; have BK523 := n0_; have BK524 := n1_; have HB := n2_; clear n0_ n1_ n2_; (try clear hb); (try clear hb2); (try clear hk); (try clear hi)) | ((with_reducible refine gate_callee (f := 48) rfl ?_); refine goesL_ (some 32) rfl rfl Try.func48 (by kernel_rfl) rfl #[.int .i64 0, .int .u64 t529, .int .u64 t530] rfl (by (try simp only [List.map_toArray, List.map_cons, List.map_nil]); first | done | rfl) ?_; (with_reducible refine (lockgatelaw03_alu.calls k 0 t529 t530 t533 _ A25.out).mono ?_); rintro e w' ⟨rfl, ⟨nd, rfl⟩⟩; refine ⟨_, rfl, ?_⟩) | ((with_reducible refine gate_callee (f := 49) rfl ?_); refine goesL_ (some 33) rfl rfl Try.func49 (by kernel_rfl) rfl #[.agg #[.int .u64 t531, .int .u64 t532], .int .u64 t533] rfl (by (try simp only [List.map_toArray, List.map_cons, List.map_nil]); first | done | rfl) ?_; (with_reducible refine (lockgatelaw03_has.calls t531 t532 t533 true _ A26.out).mono ?_); rintro e w52 ⟨rfl, hb⟩; refine ⟨_, rfl, ?_⟩; have n0_ := Aside0.mk (blk_below (g := gb523) (o := .cells #[.int .u64 t525, .int .u64 t526] 24 (0, 0)) (by (with_reducible repeat (first | apply bN_21 | apply bD_21 | apply bA_21)); exact BK523.out) hb); have n1_ := Aside0.mk (blk_below (g := gb524) (o := .cells #[.int .u64 t527, .int .u64 t528] 24 (0, 0)) (by (with_reducible repeat (first | apply bN_21 | apply bD_21 | apply bA_21)); exact BK524.out) hb); have n2_ := Aside0.mk (below_step (by repeat (first | (with_reducible first | exact HB.out | apply lA_21 | apply lN_21 | apply lD_21 | refine lS_21 ?_ GE523.out | refine lS_21 ?_ GE524.out) | exact HB.out)) hb); clear BK523; clear BK524; clear HB; have BK523 := n0_; have BK524 := n1_; have HB := n2_; clear n0_ n1_ n2_; (try clear hb); (try clear hb2); (try clear hk); (try clear hi); have hcz53_0 : w52.cell? ⟨gb523, 0, none⟩ = some (.int .u64 t525) := (blk_cell BK523.out 0).trans rfl; have hcz53_1 : w52.cell? ⟨gb523, 1, none⟩ = some (.int .u64 t526) := (blk_cell BK523.out 1).trans rfl; have hfz53_0 := blk_frozen BK523.out 0; have hfz53_1 := blk_frozen BK523.out 1; have hcz54_0 : w52.cell? ⟨gb524, 0, none⟩ = some (.int .u64 t527) := (blk_cell BK524.out 0).trans rfl; have hcz54_1 : w52.cell? ⟨gb524, 1, none⟩ = some (.int .u64 t528) := (blk_cell BK524.out 1).trans rfl; have hfz54_0 := blk_frozen BK524.out 0; have hfz54_1 := blk_frozen BK524.out 1) | (go_at_call 19; (with_reducible refine (tnum_Sub.calls t525 t526 t527 t528 t535 t536 _ A28.out).mono ?_); rintro e w55 ⟨rfl, hb⟩; have n0_ := Aside0.mk (blk_below (g := gb523) (o := .cells #[.int .u64 t525, .int .u64 t526] 24 (0, 0)) (by (with_reducible repeat (first | apply bN_21 | apply bD_21 | apply bA_21)); exact BK523.out) hb); have n1_ := Aside0.mk (blk_below (g := gb524) (o := .cells #[.int .u64 t527, .int .u64 t528] 24 (0, 0)) (by (with_reducible repeat (first | apply bN_21 | apply bD_21 | apply bA_21)); exact BK524.out) hb); have n2_ := Aside0.mk (below_step (by repeat (first | (with_reducible first | exact HB.out | apply lA_21 | apply lN_21 | apply lD_21 | refine lS_21 ?_ GE523.out | refine lS_21 ?_ GE524.out) | exact HB.out)) hb); clear BK523; clear BK524; clear HB; have BK523 := n0_; have BK524 := n1_; have HB := n2_; clear n0_ n1_ n2_; (try clear hb); (try clear hb2); (try clear hk); (try clear hi)) | (go_at_call 48; (with_reducible refine (lockgatelaw03_alu.calls k 1 t529 t530 t537 _ A29.out).mono ?_); rintro e w' ⟨rfl, ⟨nd, rfl⟩⟩) | (go_at_call 49; (with_reducible refine (lockgatelaw03_has.calls t535 t536 t537 false _ A30.out).mono ?_); rintro e w56 ⟨rfl, hb⟩; have n0_ := Aside0.mk (blk_below (g := gb523) (o := .cells #[.int .u64 t525, .int .u64 t526] 24 (0, 0)) (by (with_reducible repeat (first | apply bN_21 | apply bD_21 | apply bA_21)); exact BK523.out) hb); have n1_ := Aside0.mk (blk_below (g := gb524) (o := .cells #[.int .u64 t527, .int .u64 t528] 24 (0, 0)) (by (with_reducible repeat (first | apply bN_21 | apply bD_21 | apply bA_21)); exact BK524.out) hb); have n2_ := Aside0.mk (below_step (by repeat (first | (with_reducible first | exact HB.out | apply lA_21 | apply lN_21 | apply lD_21 | refine lS_21 ?_ GE523.out | refine lS_21 ?_ GE524.out) | exact HB.out)) hb); clear BK523; clear BK524; clear HB; have BK523 := n0_; have BK524 := n1_; have HB := n2_; clear n0_ n1_ n2_; (try clear hb); (try clear hb2); (try clear hk); (try clear hi)))
        go_meet
        case rel => exact ⟨_, (true), (by first | rfl | (simp; done) | (simp [*]; done)), H', ⟨by first | omega | exact Nat.le_refl _⟩, ⟨by (with_reducible repeat (first | apply bN_21 | apply bD_21 | apply bA_21)); exact BK523.out⟩, ⟨by (with_reducible repeat (first | apply bN_21 | apply bD_21 | apply bA_21)); exact BK524.out⟩, ⟨by repeat (first | (with_reducible first | exact HB.out | apply lA_21 | apply lN_21 | apply lD_21 | refine lS_21 ?_ GE523.out | refine lS_21 ?_ GE524.out) | exact HB.out)⟩⟩
    · replace c27 := Bool.eq_false_iff.mpr c27
      subst c27
      have H1 : (lockgatelaw03_TnumSound.j0 k a4 t529 t530 true t525 t526 t527 t528) = some r := by rw [if_neg (show ¬ (false = true) by decide)] at H; exact H
      clear H
      have H := H1
      clear H1
      have H' := Aside0.mk H
      clear H
      have hnb57 := NB523_524.out
      have hnc57 := NB524_523.out
      have hcz58_0 : w23.cell? ⟨gb523, 0, none⟩ = some (.int .u64 t525) := (blk_cell BK523.out 0).trans rfl
      have hcz58_1 : w23.cell? ⟨gb523, 1, none⟩ = some (.int .u64 t526) := (blk_cell BK523.out 1).trans rfl
      have hfz58_0 := blk_frozen BK523.out 0
      have hfz58_1 := blk_frozen BK523.out 1
      have hcz59_0 : w23.cell? ⟨gb524, 0, none⟩ = some (.int .u64 t527) := (blk_cell BK524.out 0).trans rfl
      have hcz59_1 : w23.cell? ⟨gb524, 1, none⟩ = some (.int .u64 t528) := (blk_cell BK524.out 1).trans rfl
      have hfz59_0 := blk_frozen BK524.out 0
      have hfz59_1 := blk_frozen BK524.out 1
      go_wp2_with (first | ((with_reducible refine gate_callee (f := 17) rfl ?_); refine goesL_ (some 29) rfl rfl Try.func17 (by kernel_rfl) rfl #[.agg #[.int .u64 t525, .int .u64 t526], .agg #[.int .u64 t527, .int .u64 t528]] rfl (by (try simp only [List.map_toArray, List.map_cons, List.map_nil]); first | done | rfl) ?_; (with_reducible refine (tnum_Add.calls t525 t526 t527 t528 t531 t532 _ A24.out).mono ?_); rintro e w60 ⟨rfl, hb⟩; refine ⟨_, rfl, ?_⟩; have n0_ := Aside0.mk (blk_below (g := gb523) (o := .cells #[.int .u64 t525, .int .u64 t526] 24 (0, 0)) (by (with_reducible repeat (first | apply bN_21 | apply bD_21 | apply bA_21)); exact BK523.out) hb); have n1_ := Aside0.mk (blk_below (g := gb524) (o := .cells #[.int .u64 t527, .int .u64 t528] 24 (0, 0)) (by (with_reducible repeat (first | apply bN_21 | apply bD_21 | apply bA_21)); exact BK524.out) hb); have n2_ := Aside0.mk (below_step (by repeat (first | (with_reducible first | exact HB.out | apply lA_21 | apply lN_21 | apply lD_21 | refine lS_21 ?_ GE523.out | refine lS_21 ?_ GE524.out) | exact HB.out)) hb); clear BK523; clear BK524; clear HB; have BK523 := n0_; have BK524 := n1_; have HB := n2_; clear n0_ n1_ n2_; (try clear hb); (try clear hb2); (try clear hk); (try clear hi)) | ((with_reducible refine gate_callee (f := 48) rfl ?_); refine goesL_ (some 32) rfl rfl Try.func48 (by kernel_rfl) rfl #[.int .i64 0, .int .u64 t529, .int .u64 t530] rfl (by (try simp only [List.map_toArray, List.map_cons, List.map_nil]); first | done | rfl) ?_; (with_reducible refine (lockgatelaw03_alu.calls k 0 t529 t530 t533 _ A25.out).mono ?_); rintro e w' ⟨rfl, ⟨nd, rfl⟩⟩; refine ⟨_, rfl, ?_⟩) | ((with_reducible refine gate_callee (f := 49) rfl ?_); refine goesL_ (some 33) rfl rfl Try.func49 (by kernel_rfl) rfl #[.agg #[.int .u64 t531, .int .u64 t532], .int .u64 t533] rfl (by (try simp only [List.map_toArray, List.map_cons, List.map_nil]); first | done | rfl) ?_; (with_reducible refine (lockgatelaw03_has.calls t531 t532 t533 false _ A26.out).mono ?_); rintro e w61 ⟨rfl, hb⟩; refine ⟨_, rfl, ?_⟩; have n0_ := Aside0.mk (blk_below (g := gb523) (o := .cells #[.int .u64 t525, .int .u64 t526] 24 (0, 0)) (by (with_reducible repeat (first | apply bN_21 | apply bD_21 | apply bA_21)); exact BK523.out) hb); have n1_ := Aside0.mk (blk_below (g := gb524) (o := .cells #[.int .u64 t527, .int .u64 t528] 24 (0, 0)) (by (with_reducible repeat (first | apply bN_21 | apply bD_21 | apply bA_21)); exact BK524.out) hb); have n2_ := Aside0.mk (below_step (by repeat (first | (with_reducible first | exact HB.out | apply lA_21 | apply lN_21 | apply lD_21 | refine lS_21 ?_ GE523.out | refine lS_21 ?_ GE524.out) | exact HB.out)) hb); clear BK523; clear BK524; clear HB; have BK523 := n0_; have BK524 := n1_; have HB := n2_; clear n0_ n1_ n2_; (try clear hb); (try clear hb2); (try clear hk); (try clear hi)))
      go_meet
      case rel => exact ⟨_, (true), (by first | rfl | (simp; done) | (simp [*]; done)), H', ⟨by first | omega | exact Nat.le_refl _⟩, ⟨by (with_reducible repeat (first | apply bN_21 | apply bD_21 | apply bA_21)); exact BK523.out⟩, ⟨by (with_reducible repeat (first | apply bN_21 | apply bD_21 | apply bA_21)); exact BK524.out⟩, ⟨by repeat (first | (with_reducible first | exact HB.out | apply lA_21 | apply lN_21 | apply lD_21 | refine lS_21 ?_ GE523.out | refine lS_21 ?_ GE524.out) | exact HB.out)⟩⟩
  case rest =>
    clear HC10
    try clear c1
    try clear c2
    try clear p2
    try clear c3
    try clear c4
    try clear c5
    try clear c10
    try clear c12
    try clear c13
    try clear c15
    try clear c17
    try clear c27
    try clear c31
    try clear c35
    try clear c48
    try clear c49
    try clear c57
    try clear hcz14_0
    try clear hcz14_1
    try clear hcz16_0
    try clear hcz16_1
    try clear hcz17_0
    try clear hcz17_1
    try clear hcz19_0
    try clear hcz19_1
    try clear hcz20_0
    try clear hcz20_1
    try clear hcz22_0
    try clear hcz22_1
    try clear hcz36_0
    try clear hcz36_1
    try clear hcz37_0
    try clear hcz37_1
    try clear hcz40_0
    try clear hcz40_1
    try clear hcz41_0
    try clear hcz41_1
    try clear hcz44_0
    try clear hcz44_1
    try clear hcz45_0
    try clear hcz45_1
    try clear hcz49_0
    try clear hcz49_1
    try clear hcz50_0
    try clear hcz50_1
    try clear hcz53_0
    try clear hcz53_1
    try clear hcz54_0
    try clear hcz54_1
    try clear hcz58_0
    try clear hcz58_1
    try clear hcz59_0
    try clear hcz59_1
    try clear hfz14_0
    try clear hfz14_1
    try clear hfz16_0
    try clear hfz16_1
    try clear hfz17_0
    try clear hfz17_1
    try clear hfz19_0
    try clear hfz19_1
    try clear hfz20_0
    try clear hfz20_1
    try clear hfz22_0
    try clear hfz22_1
    try clear hfz36_0
    try clear hfz36_1
    try clear hfz37_0
    try clear hfz37_1
    try clear hfz40_0
    try clear hfz40_1
    try clear hfz41_0
    try clear hfz41_1
    try clear hfz44_0
    try clear hfz44_1
    try clear hfz45_0
    try clear hfz45_1
    try clear hfz49_0
    try clear hfz49_1
    try clear hfz50_0
    try clear hfz50_1
    try clear hfz53_0
    try clear hfz53_1
    try clear hfz54_0
    try clear hfz54_1
    try clear hfz58_0
    try clear hfz58_1
    try clear hfz59_0
    try clear hfz59_1
    obtain ⟨kq, x54_9, rfl, HA, HJ9, BK523, BK524, HB⟩ := hcut
    cases kq with
    | zero => exact absurd HA.out (by simp [lockgatelaw03_TnumSound.j0])
    | succ kj9 =>
      have H := HA.out
      clear HA
      simp only [lockgatelaw03_TnumSound.j0] at H
      by_cases c62 : x54_9 = true
      · subst c62
        have H1 : (some false) = some r := by rw [if_pos rfl] at H; exact H
        clear H
        have H := H1
        clear H1
        exact absurd ((Option.some.inj H).trans HRT.out) (by decide)
      · replace c62 := Bool.eq_false_iff.mpr c62
        subst c62
        have H1 : ((tnum_Or.f t525 t526 t527 t528).bind fun bt543 => ((lockgatelaw03_alu.f kj9 4 t529 t530).bind fun t545 => ((lockgatelaw03_has.f bt543.1 bt543.2 t545).bind fun t546 => (if t546 = true then ((tnum_And.f t525 t526 t527 t528).bind fun bt547 => ((lockgatelaw03_alu.f kj9 5 t529 t530).bind fun t549 => ((lockgatelaw03_has.f bt547.1 bt547.2 t549).bind fun t550 => (if t550 = true then ((tnum_Xor.f t525 t526 t527 t528).bind fun bt551 => ((lockgatelaw03_alu.f kj9 10 t529 t530).bind fun t553 => ((lockgatelaw03_has.f bt551.1 bt551.2 t553).bind fun t554 => (lockgatelaw03_TnumSound.j1 kj9 a4 t529 (!t554) t525 t526)))) else (lockgatelaw03_TnumSound.j1 kj9 a4 t529 true t525 t526))))) else (lockgatelaw03_TnumSound.j1 kj9 a4 t529 true t525 t526))))) = some r := by rw [if_neg (show ¬ (false = true) by decide)] at H; exact H
        clear H
        have H := H1
        clear H1
        have HC63 := Aside0.mk H
        clear H
        go_upto_region 7 with (fail)
        go_cut [82] (fun v82 wc => ∃ (kq : Nat) (x82_62 : Bool), v82 = .bool x82_62 ∧ Aside0 (lockgatelaw03_TnumSound.j1 kq a4 t529 x82_62 t525 t526 = some r) ∧ Aside0 (kq ≤ kj9) ∧ Aside0 (wc.heap[gb523]? = some (.cells #[.int .u64 t525, .int .u64 t526] 24 (0, 0))) ∧ Aside0 (wc.heap[gb524]? = some (.cells #[.int .u64 t527, .int .u64 t528] 24 (0, 0))) ∧ Aside0 (Below w.heap.size w wc))
        case first =>
          have H := HC63.out
          clear HC63
          replace H := Option.bind_eq_some_iff.mp H
          obtain ⟨⟨t543, t544⟩, A640, H⟩ := H
          replace H : ((lockgatelaw03_alu.f kj9 4 t529 t530).bind fun t545 => ((lockgatelaw03_has.f t543 t544 t545).bind fun t546 => (if t546 = true then ((tnum_And.f t525 t526 t527 t528).bind fun bt547 => ((lockgatelaw03_alu.f kj9 5 t529 t530).bind fun t549 => ((lockgatelaw03_has.f bt547.1 bt547.2 t549).bind fun t550 => (if t550 = true then ((tnum_Xor.f t525 t526 t527 t528).bind fun bt551 => ((lockgatelaw03_alu.f kj9 10 t529 t530).bind fun t553 => ((lockgatelaw03_has.f bt551.1 bt551.2 t553).bind fun t554 => (lockgatelaw03_TnumSound.j1 kj9 a4 t529 (!t554) t525 t526)))) else (lockgatelaw03_TnumSound.j1 kj9 a4 t529 true t525 t526))))) else (lockgatelaw03_TnumSound.j1 kj9 a4 t529 true t525 t526)))) = some r := H
          have A64 := Aside0.mk A640
          clear A640
          replace H := Option.bind_eq_some_iff.mp H
          obtain ⟨t545, A650, H⟩ := H
          replace H : ((lockgatelaw03_has.f t543 t544 t545).bind fun t546 => (if t546 = true then ((tnum_And.f t525 t526 t527 t528).bind fun bt547 => ((lockgatelaw03_alu.f kj9 5 t529 t530).bind fun t549 => ((lockgatelaw03_has.f bt547.1 bt547.2 t549).bind fun t550 => (if t550 = true then ((tnum_Xor.f t525 t526 t527 t528).bind fun bt551 => ((lockgatelaw03_alu.f kj9 10 t529 t530).bind fun t553 => ((lockgatelaw03_has.f bt551.1 bt551.2 t553).bind fun t554 => (lockgatelaw03_TnumSound.j1 kj9 a4 t529 (!t554) t525 t526)))) else (lockgatelaw03_TnumSound.j1 kj9 a4 t529 true t525 t526))))) else (lockgatelaw03_TnumSound.j1 kj9 a4 t529 true t525 t526))) = some r := H
          have A65 := Aside0.mk A650
          clear A650
          replace H := Option.bind_eq_some_iff.mp H
          obtain ⟨t546, A660, H⟩ := H
          replace H : (if t546 = true then ((tnum_And.f t525 t526 t527 t528).bind fun bt547 => ((lockgatelaw03_alu.f kj9 5 t529 t530).bind fun t549 => ((lockgatelaw03_has.f bt547.1 bt547.2 t549).bind fun t550 => (if t550 = true then ((tnum_Xor.f t525 t526 t527 t528).bind fun bt551 => ((lockgatelaw03_alu.f kj9 10 t529 t530).bind fun t553 => ((lockgatelaw03_has.f bt551.1 bt551.2 t553).bind fun t554 => (lockgatelaw03_TnumSound.j1 kj9 a4 t529 (!t554) t525 t526)))) else (lockgatelaw03_TnumSound.j1 kj9 a4 t529 true t525 t526))))) else (lockgatelaw03_TnumSound.j1 kj9 a4 t529 true t525 t526)) = some r := H
          have A66 := Aside0.mk A660
          clear A660
          by_cases c67 : t546 = true
          · subst c67
            have H1 : ((tnum_And.f t525 t526 t527 t528).bind fun bt547 => ((lockgatelaw03_alu.f kj9 5 t529 t530).bind fun t549 => ((lockgatelaw03_has.f bt547.1 bt547.2 t549).bind fun t550 => (if t550 = true then ((tnum_Xor.f t525 t526 t527 t528).bind fun bt551 => ((lockgatelaw03_alu.f kj9 10 t529 t530).bind fun t553 => ((lockgatelaw03_has.f bt551.1 bt551.2 t553).bind fun t554 => (lockgatelaw03_TnumSound.j1 kj9 a4 t529 (!t554) t525 t526)))) else (lockgatelaw03_TnumSound.j1 kj9 a4 t529 true t525 t526))))) = some r := by rw [if_pos rfl] at H; exact H
            clear H
            have H := H1
            clear H1
            replace H := Option.bind_eq_some_iff.mp H
            obtain ⟨⟨t547, t548⟩, A680, H⟩ := H
            replace H : ((lockgatelaw03_alu.f kj9 5 t529 t530).bind fun t549 => ((lockgatelaw03_has.f t547 t548 t549).bind fun t550 => (if t550 = true then ((tnum_Xor.f t525 t526 t527 t528).bind fun bt551 => ((lockgatelaw03_alu.f kj9 10 t529 t530).bind fun t553 => ((lockgatelaw03_has.f bt551.1 bt551.2 t553).bind fun t554 => (lockgatelaw03_TnumSound.j1 kj9 a4 t529 (!t554) t525 t526)))) else (lockgatelaw03_TnumSound.j1 kj9 a4 t529 true t525 t526)))) = some r := H
            have A68 := Aside0.mk A680
            clear A680
            replace H := Option.bind_eq_some_iff.mp H
            obtain ⟨t549, A690, H⟩ := H
            replace H : ((lockgatelaw03_has.f t547 t548 t549).bind fun t550 => (if t550 = true then ((tnum_Xor.f t525 t526 t527 t528).bind fun bt551 => ((lockgatelaw03_alu.f kj9 10 t529 t530).bind fun t553 => ((lockgatelaw03_has.f bt551.1 bt551.2 t553).bind fun t554 => (lockgatelaw03_TnumSound.j1 kj9 a4 t529 (!t554) t525 t526)))) else (lockgatelaw03_TnumSound.j1 kj9 a4 t529 true t525 t526))) = some r := H
            have A69 := Aside0.mk A690
            clear A690
            replace H := Option.bind_eq_some_iff.mp H
            obtain ⟨t550, A700, H⟩ := H
            replace H : (if t550 = true then ((tnum_Xor.f t525 t526 t527 t528).bind fun bt551 => ((lockgatelaw03_alu.f kj9 10 t529 t530).bind fun t553 => ((lockgatelaw03_has.f bt551.1 bt551.2 t553).bind fun t554 => (lockgatelaw03_TnumSound.j1 kj9 a4 t529 (!t554) t525 t526)))) else (lockgatelaw03_TnumSound.j1 kj9 a4 t529 true t525 t526)) = some r := H
            have A70 := Aside0.mk A700
            clear A700
            by_cases c71 : t550 = true
            · subst c71
              have H1 : ((tnum_Xor.f t525 t526 t527 t528).bind fun bt551 => ((lockgatelaw03_alu.f kj9 10 t529 t530).bind fun t553 => ((lockgatelaw03_has.f bt551.1 bt551.2 t553).bind fun t554 => (lockgatelaw03_TnumSound.j1 kj9 a4 t529 (!t554) t525 t526)))) = some r := by rw [if_pos rfl] at H; exact H
              clear H
              have H := H1
              clear H1
              replace H := Option.bind_eq_some_iff.mp H
              obtain ⟨⟨t551, t552⟩, A720, H⟩ := H
              replace H : ((lockgatelaw03_alu.f kj9 10 t529 t530).bind fun t553 => ((lockgatelaw03_has.f t551 t552 t553).bind fun t554 => (lockgatelaw03_TnumSound.j1 kj9 a4 t529 (!t554) t525 t526))) = some r := H
              have A72 := Aside0.mk A720
              clear A720
              replace H := Option.bind_eq_some_iff.mp H
              obtain ⟨t553, A730, H⟩ := H
              replace H : ((lockgatelaw03_has.f t551 t552 t553).bind fun t554 => (lockgatelaw03_TnumSound.j1 kj9 a4 t529 (!t554) t525 t526)) = some r := H
              have A73 := Aside0.mk A730
              clear A730
              replace H := Option.bind_eq_some_iff.mp H
              obtain ⟨t554, A740, H⟩ := H
              replace H : (lockgatelaw03_TnumSound.j1 kj9 a4 t529 (!t554) t525 t526) = some r := H
              have A74 := Aside0.mk A740
              clear A740
              have H' := Aside0.mk H
              clear H
              have hnb75 := NB523_524.out
              have hnc75 := NB524_523.out
              have hcz76_0 : wc.cell? ⟨gb523, 0, none⟩ = some (.int .u64 t525) := (blk_cell BK523.out 0).trans rfl
              have hcz76_1 : wc.cell? ⟨gb523, 1, none⟩ = some (.int .u64 t526) := (blk_cell BK523.out 1).trans rfl
              have hfz76_0 := blk_frozen BK523.out 0
              have hfz76_1 := blk_frozen BK523.out 1
              have hcz77_0 : wc.cell? ⟨gb524, 0, none⟩ = some (.int .u64 t527) := (blk_cell BK524.out 0).trans rfl
              have hcz77_1 : wc.cell? ⟨gb524, 1, none⟩ = some (.int .u64 t528) := (blk_cell BK524.out 1).trans rfl
              have hfz77_0 := blk_frozen BK524.out 0
              have hfz77_1 := blk_frozen BK524.out 1
              go_wp2_with (first | ((with_reducible refine gate_callee (f := 34) rfl ?_); refine goesL_ (some 57) rfl rfl Try.func34 (by kernel_rfl) rfl #[.agg #[.int .u64 t525, .int .u64 t526], .agg #[.int .u64 t527, .int .u64 t528]] rfl (by (try simp only [List.map_toArray, List.map_cons, List.map_nil]); first | done | rfl) ?_; (with_reducible refine (tnum_Or.calls t525 t526 t527 t528 t543 t544 _ A64.out).mono ?_); rintro e w78 ⟨rfl, hb⟩; refine ⟨_, rfl, ?_⟩; have n0_ := Aside0.mk (blk_below (g := gb523) (o := .cells #[.int .u64 t525, .int .u64 t526] 24 (0, 0)) (by (with_reducible repeat (first | apply bN_21 | apply bD_21 | apply bA_21)); exact BK523.out) hb); have n1_ := Aside0.mk (blk_below (g := gb524) (o := .cells #[.int .u64 t527, .int .u64 t528] 24 (0, 0)) (by (with_reducible repeat (first | apply bN_21 | apply bD_21 | apply bA_21)); exact BK524.out) hb); have n2_ := Aside0.mk (below_step (by repeat (first | (with_reducible first | exact HB.out | apply lA_21 | apply lN_21 | apply lD_21 | refine lS_21 ?_ GE523.out | refine lS_21 ?_ GE524.out) | exact HB.out)) hb); clear BK523; clear BK524; clear HB; have BK523 := n0_; have BK524 := n1_; have HB := n2_; clear n0_ n1_ n2_; (try clear hb); (try clear hb2); (try clear hk); (try clear hi)) | ((with_reducible refine gate_callee (f := 48) rfl ?_); refine goesL_ (some 60) rfl rfl Try.func48 (by kernel_rfl) rfl #[.int .i64 4, .int .u64 t529, .int .u64 t530] rfl (by (try simp only [List.map_toArray, List.map_cons, List.map_nil]); first | done | rfl) ?_; (with_reducible refine (lockgatelaw03_alu.calls kj9 4 t529 t530 t545 _ A65.out).mono ?_); rintro e w' ⟨rfl, ⟨nd, rfl⟩⟩; refine ⟨_, rfl, ?_⟩) | ((with_reducible refine gate_callee (f := 49) rfl ?_); refine goesL_ (some 61) rfl rfl Try.func49 (by kernel_rfl) rfl #[.agg #[.int .u64 t543, .int .u64 t544], .int .u64 t545] rfl (by (try simp only [List.map_toArray, List.map_cons, List.map_nil]); first | done | rfl) ?_; (with_reducible refine (lockgatelaw03_has.calls t543 t544 t545 true _ A66.out).mono ?_); rintro e w79 ⟨rfl, hb⟩; refine ⟨_, rfl, ?_⟩; have n0_ := Aside0.mk (blk_below (g := gb523) (o := .cells #[.int .u64 t525, .int .u64 t526] 24 (0, 0)) (by (with_reducible repeat (first | apply bN_21 | apply bD_21 | apply bA_21)); exact BK523.out) hb); have n1_ := Aside0.mk (blk_below (g := gb524) (o := .cells #[.int .u64 t527, .int .u64 t528] 24 (0, 0)) (by (with_reducible repeat (first | apply bN_21 | apply bD_21 | apply bA_21)); exact BK524.out) hb); have n2_ := Aside0.mk (below_step (by repeat (first | (with_reducible first | exact HB.out | apply lA_21 | apply lN_21 | apply lD_21 | refine lS_21 ?_ GE523.out | refine lS_21 ?_ GE524.out) | exact HB.out)) hb); clear BK523; clear BK524; clear HB; have BK523 := n0_; have BK524 := n1_; have HB := n2_; clear n0_ n1_ n2_; (try clear hb); (try clear hb2); (try clear hk); (try clear hi); have hcz80_0 : w79.cell? ⟨gb523, 0, none⟩ = some (.int .u64 t525) := (blk_cell BK523.out 0).trans rfl; have hcz80_1 : w79.cell? ⟨gb523, 1, none⟩ = some (.int .u64 t526) := (blk_cell BK523.out 1).trans rfl; have hfz80_0 := blk_frozen BK523.out 0; have hfz80_1 := blk_frozen BK523.out 1; have hcz81_0 : w79.cell? ⟨gb524, 0, none⟩ = some (.int .u64 t527) := (blk_cell BK524.out 0).trans rfl; have hcz81_1 : w79.cell? ⟨gb524, 1, none⟩ = some (.int .u64 t528) := (blk_cell BK524.out 1).trans rfl; have hfz81_0 := blk_frozen BK524.out 0; have hfz81_1 := blk_frozen BK524.out 1) | (go_at_call 33; (with_reducible refine (tnum_And.calls t525 t526 t527 t528 t547 t548 _ A68.out).mono ?_); rintro e w82 ⟨rfl, hb⟩; have n0_ := Aside0.mk (blk_below (g := gb523) (o := .cells #[.int .u64 t525, .int .u64 t526] 24 (0, 0)) (by (with_reducible repeat (first | apply bN_21 | apply bD_21 | apply bA_21)); exact BK523.out) hb); have n1_ := Aside0.mk (blk_below (g := gb524) (o := .cells #[.int .u64 t527, .int .u64 t528] 24 (0, 0)) (by (with_reducible repeat (first | apply bN_21 | apply bD_21 | apply bA_21)); exact BK524.out) hb); have n2_ := Aside0.mk (below_step (by repeat (first | (with_reducible first | exact HB.out | apply lA_21 | apply lN_21 | apply lD_21 | refine lS_21 ?_ GE523.out | refine lS_21 ?_ GE524.out) | exact HB.out)) hb); clear BK523; clear BK524; clear HB; have BK523 := n0_; have BK524 := n1_; have HB := n2_; clear n0_ n1_ n2_; (try clear hb); (try clear hb2); (try clear hk); (try clear hi)) | (go_at_call 48; (with_reducible refine (lockgatelaw03_alu.calls kj9 5 t529 t530 t549 _ A69.out).mono ?_); rintro e w' ⟨rfl, ⟨nd, rfl⟩⟩) | (go_at_call 49; (with_reducible refine (lockgatelaw03_has.calls t547 t548 t549 true _ A70.out).mono ?_); rintro e w83 ⟨rfl, hb⟩; have n0_ := Aside0.mk (blk_below (g := gb523) (o := .cells #[.int .u64 t525, .int .u64 t526] 24 (0, 0)) (by (with_reducible repeat (first | apply bN_21 | apply bD_21 | apply bA_21)); exact BK523.out) hb); have n1_ := Aside0.mk (blk_below (g := gb524) (o := .cells #[.int .u64 t527, .int .u64 t528] 24 (0, 0)) (by (with_reducible repeat (first | apply bN_21 | apply bD_21 | apply bA_21)); exact BK524.out) hb); have n2_ := Aside0.mk (below_step (by repeat (first | (with_reducible first | exact HB.out | apply lA_21 | apply lN_21 | apply lD_21 | refine lS_21 ?_ GE523.out | refine lS_21 ?_ GE524.out) | exact HB.out)) hb); clear BK523; clear BK524; clear HB; have BK523 := n0_; have BK524 := n1_; have HB := n2_; clear n0_ n1_ n2_; (try clear hb); (try clear hb2); (try clear hk); (try clear hi); have hcz84_0 : w83.cell? ⟨gb523, 0, none⟩ = some (.int .u64 t525) := (blk_cell BK523.out 0).trans rfl; have hcz84_1 : w83.cell? ⟨gb523, 1, none⟩ = some (.int .u64 t526) := (blk_cell BK523.out 1).trans rfl; have hfz84_0 := blk_frozen BK523.out 0; have hfz84_1 := blk_frozen BK523.out 1; have hcz85_0 : w83.cell? ⟨gb524, 0, none⟩ = some (.int .u64 t527) := (blk_cell BK524.out 0).trans rfl; have hcz85_1 : w83.cell? ⟨gb524, 1, none⟩ = some (.int .u64 t528) := (blk_cell BK524.out 1).trans rfl; have hfz85_0 := blk_frozen BK524.out 0; have hfz85_1 := blk_frozen BK524.out 1) | (go_at_call 35; (with_reducible refine (tnum_Xor.calls t525 t526 t527 t528 t551 t552 _ A72.out).mono ?_); rintro e w86 ⟨rfl, hb⟩; have n0_ := Aside0.mk (blk_below (g := gb523) (o := .cells #[.int .u64 t525, .int .u64 t526] 24 (0, 0)) (by (with_reducible repeat (first | apply bN_21 | apply bD_21 | apply bA_21)); exact BK523.out) hb); have n1_ := Aside0.mk (blk_below (g := gb524) (o := .cells #[.int .u64 t527, .int .u64 t528] 24 (0, 0)) (by (with_reducible repeat (first | apply bN_21 | apply bD_21 | apply bA_21)); exact BK524.out) hb); have n2_ := Aside0.mk (below_step (by repeat (first | (with_reducible first | exact HB.out | apply lA_21 | apply lN_21 | apply lD_21 | refine lS_21 ?_ GE523.out | refine lS_21 ?_ GE524.out) | exact HB.out)) hb); clear BK523; clear BK524; clear HB; have BK523 := n0_; have BK524 := n1_; have HB := n2_; clear n0_ n1_ n2_; (try clear hb); (try clear hb2); (try clear hk); (try clear hi)) | (go_at_call 48; (with_reducible refine (lockgatelaw03_alu.calls kj9 10 t529 t530 t553 _ A73.out).mono ?_); rintro e w' ⟨rfl, ⟨nd, rfl⟩⟩) | (go_at_call 49; (with_reducible refine (lockgatelaw03_has.calls t551 t552 t553 t554 _ A74.out).mono ?_); rintro e w87 ⟨rfl, hb⟩; have n0_ := Aside0.mk (blk_below (g := gb523) (o := .cells #[.int .u64 t525, .int .u64 t526] 24 (0, 0)) (by (with_reducible repeat (first | apply bN_21 | apply bD_21 | apply bA_21)); exact BK523.out) hb); have n1_ := Aside0.mk (blk_below (g := gb524) (o := .cells #[.int .u64 t527, .int .u64 t528] 24 (0, 0)) (by (with_reducible repeat (first | apply bN_21 | apply bD_21 | apply bA_21)); exact BK524.out) hb); have n2_ := Aside0.mk (below_step (by repeat (first | (with_reducible first | exact HB.out | apply lA_21 | apply lN_21 | apply lD_21 | refine lS_21 ?_ GE523.out | refine lS_21 ?_ GE524.out) | exact HB.out)) hb); clear BK523; clear BK524; clear HB; have BK523 := n0_; have BK524 := n1_; have HB := n2_; clear n0_ n1_ n2_; (try clear hb); (try clear hb2); (try clear hk); (try clear hi)))
              go_meet
              case rel => exact ⟨_, (!t554), (by first | rfl | (simp; done) | (simp [*]; done)), H', ⟨by have := HJ9.out; first | omega | exact Nat.le_refl _⟩, ⟨by (with_reducible repeat (first | apply bN_21 | apply bD_21 | apply bA_21)); exact BK523.out⟩, ⟨by (with_reducible repeat (first | apply bN_21 | apply bD_21 | apply bA_21)); exact BK524.out⟩, ⟨by repeat (first | (with_reducible first | exact HB.out | apply lA_21 | apply lN_21 | apply lD_21 | refine lS_21 ?_ GE523.out | refine lS_21 ?_ GE524.out) | exact HB.out)⟩⟩
            · replace c71 := Bool.eq_false_iff.mpr c71
              subst c71
              have H1 : (lockgatelaw03_TnumSound.j1 kj9 a4 t529 true t525 t526) = some r := by rw [if_neg (show ¬ (false = true) by decide)] at H; exact H
              clear H
              have H := H1
              clear H1
              have H' := Aside0.mk H
              clear H
              have hnb88 := NB523_524.out
              have hnc88 := NB524_523.out
              have hcz89_0 : wc.cell? ⟨gb523, 0, none⟩ = some (.int .u64 t525) := (blk_cell BK523.out 0).trans rfl
              have hcz89_1 : wc.cell? ⟨gb523, 1, none⟩ = some (.int .u64 t526) := (blk_cell BK523.out 1).trans rfl
              have hfz89_0 := blk_frozen BK523.out 0
              have hfz89_1 := blk_frozen BK523.out 1
              have hcz90_0 : wc.cell? ⟨gb524, 0, none⟩ = some (.int .u64 t527) := (blk_cell BK524.out 0).trans rfl
              have hcz90_1 : wc.cell? ⟨gb524, 1, none⟩ = some (.int .u64 t528) := (blk_cell BK524.out 1).trans rfl
              have hfz90_0 := blk_frozen BK524.out 0
              have hfz90_1 := blk_frozen BK524.out 1
              go_wp2_with (first | ((with_reducible refine gate_callee (f := 34) rfl ?_); refine goesL_ (some 57) rfl rfl Try.func34 (by kernel_rfl) rfl #[.agg #[.int .u64 t525, .int .u64 t526], .agg #[.int .u64 t527, .int .u64 t528]] rfl (by (try simp only [List.map_toArray, List.map_cons, List.map_nil]); first | done | rfl) ?_; (with_reducible refine (tnum_Or.calls t525 t526 t527 t528 t543 t544 _ A64.out).mono ?_); rintro e w91 ⟨rfl, hb⟩; refine ⟨_, rfl, ?_⟩; have n0_ := Aside0.mk (blk_below (g := gb523) (o := .cells #[.int .u64 t525, .int .u64 t526] 24 (0, 0)) (by (with_reducible repeat (first | apply bN_21 | apply bD_21 | apply bA_21)); exact BK523.out) hb); have n1_ := Aside0.mk (blk_below (g := gb524) (o := .cells #[.int .u64 t527, .int .u64 t528] 24 (0, 0)) (by (with_reducible repeat (first | apply bN_21 | apply bD_21 | apply bA_21)); exact BK524.out) hb); have n2_ := Aside0.mk (below_step (by repeat (first | (with_reducible first | exact HB.out | apply lA_21 | apply lN_21 | apply lD_21 | refine lS_21 ?_ GE523.out | refine lS_21 ?_ GE524.out) | exact HB.out)) hb); clear BK523; clear BK524; clear HB; have BK523 := n0_; have BK524 := n1_; have HB := n2_; clear n0_ n1_ n2_; (try clear hb); (try clear hb2); (try clear hk); (try clear hi)) | ((with_reducible refine gate_callee (f := 48) rfl ?_); refine goesL_ (some 60) rfl rfl Try.func48 (by kernel_rfl) rfl #[.int .i64 4, .int .u64 t529, .int .u64 t530] rfl (by (try simp only [List.map_toArray, List.map_cons, List.map_nil]); first | done | rfl) ?_; (with_reducible refine (lockgatelaw03_alu.calls kj9 4 t529 t530 t545 _ A65.out).mono ?_); rintro e w' ⟨rfl, ⟨nd, rfl⟩⟩; refine ⟨_, rfl, ?_⟩) | ((with_reducible refine gate_callee (f := 49) rfl ?_); refine goesL_ (some 61) rfl rfl Try.func49 (by kernel_rfl) rfl #[.agg #[.int .u64 t543, .int .u64 t544], .int .u64 t545] rfl (by (try simp only [List.map_toArray, List.map_cons, List.map_nil]); first | done | rfl) ?_; (with_reducible refine (lockgatelaw03_has.calls t543 t544 t545 true _ A66.out).mono ?_); rintro e w92 ⟨rfl, hb⟩; refine ⟨_, rfl, ?_⟩; have n0_ := Aside0.mk (blk_below (g := gb523) (o := .cells #[.int .u64 t525, .int .u64 t526] 24 (0, 0)) (by (with_reducible repeat (first | apply bN_21 | apply bD_21 | apply bA_21)); exact BK523.out) hb); have n1_ := Aside0.mk (blk_below (g := gb524) (o := .cells #[.int .u64 t527, .int .u64 t528] 24 (0, 0)) (by (with_reducible repeat (first | apply bN_21 | apply bD_21 | apply bA_21)); exact BK524.out) hb); have n2_ := Aside0.mk (below_step (by repeat (first | (with_reducible first | exact HB.out | apply lA_21 | apply lN_21 | apply lD_21 | refine lS_21 ?_ GE523.out | refine lS_21 ?_ GE524.out) | exact HB.out)) hb); clear BK523; clear BK524; clear HB; have BK523 := n0_; have BK524 := n1_; have HB := n2_; clear n0_ n1_ n2_; (try clear hb); (try clear hb2); (try clear hk); (try clear hi); have hcz93_0 : w92.cell? ⟨gb523, 0, none⟩ = some (.int .u64 t525) := (blk_cell BK523.out 0).trans rfl; have hcz93_1 : w92.cell? ⟨gb523, 1, none⟩ = some (.int .u64 t526) := (blk_cell BK523.out 1).trans rfl; have hfz93_0 := blk_frozen BK523.out 0; have hfz93_1 := blk_frozen BK523.out 1; have hcz94_0 : w92.cell? ⟨gb524, 0, none⟩ = some (.int .u64 t527) := (blk_cell BK524.out 0).trans rfl; have hcz94_1 : w92.cell? ⟨gb524, 1, none⟩ = some (.int .u64 t528) := (blk_cell BK524.out 1).trans rfl; have hfz94_0 := blk_frozen BK524.out 0; have hfz94_1 := blk_frozen BK524.out 1) | (go_at_call 33; (with_reducible refine (tnum_And.calls t525 t526 t527 t528 t547 t548 _ A68.out).mono ?_); rintro e w95 ⟨rfl, hb⟩; have n0_ := Aside0.mk (blk_below (g := gb523) (o := .cells #[.int .u64 t525, .int .u64 t526] 24 (0, 0)) (by (with_reducible repeat (first | apply bN_21 | apply bD_21 | apply bA_21)); exact BK523.out) hb); have n1_ := Aside0.mk (blk_below (g := gb524) (o := .cells #[.int .u64 t527, .int .u64 t528] 24 (0, 0)) (by (with_reducible repeat (first | apply bN_21 | apply bD_21 | apply bA_21)); exact BK524.out) hb); have n2_ := Aside0.mk (below_step (by repeat (first | (with_reducible first | exact HB.out | apply lA_21 | apply lN_21 | apply lD_21 | refine lS_21 ?_ GE523.out | refine lS_21 ?_ GE524.out) | exact HB.out)) hb); clear BK523; clear BK524; clear HB; have BK523 := n0_; have BK524 := n1_; have HB := n2_; clear n0_ n1_ n2_; (try clear hb); (try clear hb2); (try clear hk); (try clear hi)) | (go_at_call 48; (with_reducible refine (lockgatelaw03_alu.calls kj9 5 t529 t530 t549 _ A69.out).mono ?_); rintro e w' ⟨rfl, ⟨nd, rfl⟩⟩) | (go_at_call 49; (with_reducible refine (lockgatelaw03_has.calls t547 t548 t549 false _ A70.out).mono ?_); rintro e w96 ⟨rfl, hb⟩; have n0_ := Aside0.mk (blk_below (g := gb523) (o := .cells #[.int .u64 t525, .int .u64 t526] 24 (0, 0)) (by (with_reducible repeat (first | apply bN_21 | apply bD_21 | apply bA_21)); exact BK523.out) hb); have n1_ := Aside0.mk (blk_below (g := gb524) (o := .cells #[.int .u64 t527, .int .u64 t528] 24 (0, 0)) (by (with_reducible repeat (first | apply bN_21 | apply bD_21 | apply bA_21)); exact BK524.out) hb); have n2_ := Aside0.mk (below_step (by repeat (first | (with_reducible first | exact HB.out | apply lA_21 | apply lN_21 | apply lD_21 | refine lS_21 ?_ GE523.out | refine lS_21 ?_ GE524.out) | exact HB.out)) hb); clear BK523; clear BK524; clear HB; have BK523 := n0_; have BK524 := n1_; have HB := n2_; clear n0_ n1_ n2_; (try clear hb); (try clear hb2); (try clear hk); (try clear hi)))
              go_meet
              case rel => exact ⟨_, (true), (by first | rfl | (simp; done) | (simp [*]; done)), H', ⟨by have := HJ9.out; first | omega | exact Nat.le_refl _⟩, ⟨by (with_reducible repeat (first | apply bN_21 | apply bD_21 | apply bA_21)); exact BK523.out⟩, ⟨by (with_reducible repeat (first | apply bN_21 | apply bD_21 | apply bA_21)); exact BK524.out⟩, ⟨by repeat (first | (with_reducible first | exact HB.out | apply lA_21 | apply lN_21 | apply lD_21 | refine lS_21 ?_ GE523.out | refine lS_21 ?_ GE524.out) | exact HB.out)⟩⟩
          · replace c67 := Bool.eq_false_iff.mpr c67
            subst c67
            have H1 : (lockgatelaw03_TnumSound.j1 kj9 a4 t529 true t525 t526) = some r := by rw [if_neg (show ¬ (false = true) by decide)] at H; exact H
            clear H
            have H := H1
            clear H1
            have H' := Aside0.mk H
            clear H
            have hnb97 := NB523_524.out
            have hnc97 := NB524_523.out
            have hcz98_0 : wc.cell? ⟨gb523, 0, none⟩ = some (.int .u64 t525) := (blk_cell BK523.out 0).trans rfl
            have hcz98_1 : wc.cell? ⟨gb523, 1, none⟩ = some (.int .u64 t526) := (blk_cell BK523.out 1).trans rfl
            have hfz98_0 := blk_frozen BK523.out 0
            have hfz98_1 := blk_frozen BK523.out 1
            have hcz99_0 : wc.cell? ⟨gb524, 0, none⟩ = some (.int .u64 t527) := (blk_cell BK524.out 0).trans rfl
            have hcz99_1 : wc.cell? ⟨gb524, 1, none⟩ = some (.int .u64 t528) := (blk_cell BK524.out 1).trans rfl
            have hfz99_0 := blk_frozen BK524.out 0
            have hfz99_1 := blk_frozen BK524.out 1
            go_wp2_with (first | ((with_reducible refine gate_callee (f := 34) rfl ?_); refine goesL_ (some 57) rfl rfl Try.func34 (by kernel_rfl) rfl #[.agg #[.int .u64 t525, .int .u64 t526], .agg #[.int .u64 t527, .int .u64 t528]] rfl (by (try simp only [List.map_toArray, List.map_cons, List.map_nil]); first | done | rfl) ?_; (with_reducible refine (tnum_Or.calls t525 t526 t527 t528 t543 t544 _ A64.out).mono ?_); rintro e w100 ⟨rfl, hb⟩; refine ⟨_, rfl, ?_⟩; have n0_ := Aside0.mk (blk_below (g := gb523) (o := .cells #[.int .u64 t525, .int .u64 t526] 24 (0, 0)) (by (with_reducible repeat (first | apply bN_21 | apply bD_21 | apply bA_21)); exact BK523.out) hb); have n1_ := Aside0.mk (blk_below (g := gb524) (o := .cells #[.int .u64 t527, .int .u64 t528] 24 (0, 0)) (by (with_reducible repeat (first | apply bN_21 | apply bD_21 | apply bA_21)); exact BK524.out) hb); have n2_ := Aside0.mk (below_step (by repeat (first | (with_reducible first | exact HB.out | apply lA_21 | apply lN_21 | apply lD_21 | refine lS_21 ?_ GE523.out | refine lS_21 ?_ GE524.out) | exact HB.out)) hb); clear BK523; clear BK524; clear HB; have BK523 := n0_; have BK524 := n1_; have HB := n2_; clear n0_ n1_ n2_; (try clear hb); (try clear hb2); (try clear hk); (try clear hi)) | ((with_reducible refine gate_callee (f := 48) rfl ?_); refine goesL_ (some 60) rfl rfl Try.func48 (by kernel_rfl) rfl #[.int .i64 4, .int .u64 t529, .int .u64 t530] rfl (by (try simp only [List.map_toArray, List.map_cons, List.map_nil]); first | done | rfl) ?_; (with_reducible refine (lockgatelaw03_alu.calls kj9 4 t529 t530 t545 _ A65.out).mono ?_); rintro e w' ⟨rfl, ⟨nd, rfl⟩⟩; refine ⟨_, rfl, ?_⟩) | ((with_reducible refine gate_callee (f := 49) rfl ?_); refine goesL_ (some 61) rfl rfl Try.func49 (by kernel_rfl) rfl #[.agg #[.int .u64 t543, .int .u64 t544], .int .u64 t545] rfl (by (try simp only [List.map_toArray, List.map_cons, List.map_nil]); first | done | rfl) ?_; (with_reducible refine (lockgatelaw03_has.calls t543 t544 t545 false _ A66.out).mono ?_); rintro e w101 ⟨rfl, hb⟩; refine ⟨_, rfl, ?_⟩; have n0_ := Aside0.mk (blk_below (g := gb523) (o := .cells #[.int .u64 t525, .int .u64 t526] 24 (0, 0)) (by (with_reducible repeat (first | apply bN_21 | apply bD_21 | apply bA_21)); exact BK523.out) hb); have n1_ := Aside0.mk (blk_below (g := gb524) (o := .cells #[.int .u64 t527, .int .u64 t528] 24 (0, 0)) (by (with_reducible repeat (first | apply bN_21 | apply bD_21 | apply bA_21)); exact BK524.out) hb); have n2_ := Aside0.mk (below_step (by repeat (first | (with_reducible first | exact HB.out | apply lA_21 | apply lN_21 | apply lD_21 | refine lS_21 ?_ GE523.out | refine lS_21 ?_ GE524.out) | exact HB.out)) hb); clear BK523; clear BK524; clear HB; have BK523 := n0_; have BK524 := n1_; have HB := n2_; clear n0_ n1_ n2_; (try clear hb); (try clear hb2); (try clear hk); (try clear hi)))
            go_meet
            case rel => exact ⟨_, (true), (by first | rfl | (simp; done) | (simp [*]; done)), H', ⟨by have := HJ9.out; first | omega | exact Nat.le_refl _⟩, ⟨by (with_reducible repeat (first | apply bN_21 | apply bD_21 | apply bA_21)); exact BK523.out⟩, ⟨by (with_reducible repeat (first | apply bN_21 | apply bD_21 | apply bA_21)); exact BK524.out⟩, ⟨by repeat (first | (with_reducible first | exact HB.out | apply lA_21 | apply lN_21 | apply lD_21 | refine lS_21 ?_ GE523.out | refine lS_21 ?_ GE524.out) | exact HB.out)⟩⟩
        case rest =>
          clear HC63
          try clear c1
          try clear c2
          try clear p2
          try clear c3
          try clear c4
          try clear c5
          try clear c6
          try clear c7
          try clear c8
          try clear c9
          try clear c10
          try clear c12
          try clear c13
          try clear c15
          try clear c17
          try clear c27
          try clear c31
          try clear c34
          try clear c35
          try clear c48
          try clear c49
          try clear c57
          try clear c62
          try clear c67
          try clear c71
          try clear c75
          try clear c88
          try clear c97
          try clear hcz14_0
          try clear hcz14_1
          try clear hcz16_0
          try clear hcz16_1
          try clear hcz17_0
          try clear hcz17_1
          try clear hcz19_0
          try clear hcz19_1
          try clear hcz20_0
          try clear hcz20_1
          try clear hcz22_0
          try clear hcz22_1
          try clear hcz36_0
          try clear hcz36_1
          try clear hcz37_0
          try clear hcz37_1
          try clear hcz40_0
          try clear hcz40_1
          try clear hcz41_0
          try clear hcz41_1
          try clear hcz44_0
          try clear hcz44_1
          try clear hcz45_0
          try clear hcz45_1
          try clear hcz49_0
          try clear hcz49_1
          try clear hcz50_0
          try clear hcz50_1
          try clear hcz53_0
          try clear hcz53_1
          try clear hcz54_0
          try clear hcz54_1
          try clear hcz58_0
          try clear hcz58_1
          try clear hcz59_0
          try clear hcz59_1
          try clear hcz76_0
          try clear hcz76_1
          try clear hcz77_0
          try clear hcz77_1
          try clear hcz80_0
          try clear hcz80_1
          try clear hcz81_0
          try clear hcz81_1
          try clear hcz84_0
          try clear hcz84_1
          try clear hcz85_0
          try clear hcz85_1
          try clear hcz89_0
          try clear hcz89_1
          try clear hcz90_0
          try clear hcz90_1
          try clear hcz93_0
          try clear hcz93_1
          try clear hcz94_0
          try clear hcz94_1
          try clear hcz98_0
          try clear hcz98_1
          try clear hcz99_0
          try clear hcz99_1
          try clear hfz14_0
          try clear hfz14_1
          try clear hfz16_0
          try clear hfz16_1
          try clear hfz17_0
          try clear hfz17_1
          try clear hfz19_0
          try clear hfz19_1
          try clear hfz20_0
          try clear hfz20_1
          try clear hfz22_0
          try clear hfz22_1
          try clear hfz36_0
          try clear hfz36_1
          try clear hfz37_0
          try clear hfz37_1
          try clear hfz40_0
          try clear hfz40_1
          try clear hfz41_0
          try clear hfz41_1
          try clear hfz44_0
          try clear hfz44_1
          try clear hfz45_0
          try clear hfz45_1
          try clear hfz49_0
          try clear hfz49_1
          try clear hfz50_0
          try clear hfz50_1
          try clear hfz53_0
          try clear hfz53_1
          try clear hfz54_0
          try clear hfz54_1
          try clear hfz58_0
          try clear hfz58_1
          try clear hfz59_0
          try clear hfz59_1
          try clear hfz76_0
          try clear hfz76_1
          try clear hfz77_0
          try clear hfz77_1
          try clear hfz80_0
          try clear hfz80_1
          try clear hfz81_0
          try clear hfz81_1
          try clear hfz84_0
          try clear hfz84_1
          try clear hfz85_0
          try clear hfz85_1
          try clear hfz89_0
          try clear hfz89_1
          try clear hfz90_0
          try clear hfz90_1
          try clear hfz93_0
          try clear hfz93_1
          try clear hfz94_0
          try clear hfz94_1
          try clear hfz98_0
          try clear hfz98_1
          try clear hfz99_0
          try clear hfz99_1
          try clear p2
          obtain ⟨kq, x82_62, rfl, HA, HJ62, BK523, BK524, HB⟩ := hcut
          cases kq with
          | zero => exact absurd HA.out (by simp [lockgatelaw03_TnumSound.j1])
          | succ kj62 =>
            have H := HA.out
            clear HA
            simp only [lockgatelaw03_TnumSound.j1] at H
            by_cases c102 : x82_62 = true
            · subst c102
              have H1 : (some false) = some r := by rw [if_pos rfl] at H; exact H
              clear H
              have H := H1
              clear H1
              exact absurd ((Option.some.inj H).trans HRT.out) (by decide)
            · replace c102 := Bool.eq_false_iff.mpr c102
              subst c102
              have H1 : ((word_Alu.f kj62 12 false t529 (IntKind.u64.wrap (a4))).bind fun bt555 => ((tnum_Lsh.f t525 t526 a4).bind fun bt557 => ((lockgatelaw03_alu.f kj62 6 t529 (IntKind.u64.wrap (a4))).bind fun t559 => ((lockgatelaw03_has.f bt557.1 bt557.2 t559).bind fun t560 => (if t560 = true then ((tnum_Rsh.f t525 t526 a4).bind fun bt561 => ((lockgatelaw03_alu.f kj62 7 t529 (IntKind.u64.wrap (a4))).bind fun t563 => ((lockgatelaw03_has.f bt561.1 bt561.2 t563).bind fun t564 => (if t564 = true then ((tnum_Arsh.f t525 t526 a4 64).bind fun bt565 => ((lockgatelaw03_alu.f kj62 12 t529 (IntKind.u64.wrap (a4))).bind fun t567 => ((lockgatelaw03_has.f bt565.1 bt565.2 t567).bind fun t568 => (if t568 = true then ((tnum_Arsh.f t525 t526 a4 32).bind fun bt569 => ((lockgatelaw03_has.f bt569.1 bt569.2 bt555.1).bind fun t571 => (lockgatelaw03_TnumSound.j2 kj62 t529 (!t571) t525 t526))) else (lockgatelaw03_TnumSound.j2 kj62 t529 true t525 t526))))) else (lockgatelaw03_TnumSound.j2 kj62 t529 true t525 t526))))) else (lockgatelaw03_TnumSound.j2 kj62 t529 true t525 t526)))))) = some r := by rw [if_neg (show ¬ (false = true) by decide)] at H; exact H
              clear H
              have H := H1
              clear H1
              replace H := Option.bind_eq_some_iff.mp H
              obtain ⟨⟨t555, t556⟩, A1030, H⟩ := H
              replace H : ((tnum_Lsh.f t525 t526 a4).bind fun bt557 => ((lockgatelaw03_alu.f kj62 6 t529 (IntKind.u64.wrap (a4))).bind fun t559 => ((lockgatelaw03_has.f bt557.1 bt557.2 t559).bind fun t560 => (if t560 = true then ((tnum_Rsh.f t525 t526 a4).bind fun bt561 => ((lockgatelaw03_alu.f kj62 7 t529 (IntKind.u64.wrap (a4))).bind fun t563 => ((lockgatelaw03_has.f bt561.1 bt561.2 t563).bind fun t564 => (if t564 = true then ((tnum_Arsh.f t525 t526 a4 64).bind fun bt565 => ((lockgatelaw03_alu.f kj62 12 t529 (IntKind.u64.wrap (a4))).bind fun t567 => ((lockgatelaw03_has.f bt565.1 bt565.2 t567).bind fun t568 => (if t568 = true then ((tnum_Arsh.f t525 t526 a4 32).bind fun bt569 => ((lockgatelaw03_has.f bt569.1 bt569.2 t555).bind fun t571 => (lockgatelaw03_TnumSound.j2 kj62 t529 (!t571) t525 t526))) else (lockgatelaw03_TnumSound.j2 kj62 t529 true t525 t526))))) else (lockgatelaw03_TnumSound.j2 kj62 t529 true t525 t526))))) else (lockgatelaw03_TnumSound.j2 kj62 t529 true t525 t526))))) = some r := H
              have A103 := Aside0.mk A1030
              clear A1030
              have HC104 := Aside0.mk H
              clear H
              go_upto_region 11 with (first | ((with_reducible refine gate_callee (f := 47) rfl ?_); refine goesL_ (some 88) rfl rfl Try.func47 (by kernel_rfl) rfl #[.int .i64 12, .bool false, .int .u64 t529, .int .u64 (IntKind.u64.wrap (a4))] rfl (by (try simp only [List.map_toArray, List.map_cons, List.map_nil]); first | done | rfl) ?_; (with_reducible refine (word_Alu.calls kj62 12 false t529 (IntKind.u64.wrap (a4)) t555 t556 _ A103.out).mono ?_); rintro e w' ⟨rfl, ⟨nd, rfl⟩⟩; refine ⟨_, rfl, ?_⟩))
              (try simp only [Act.put, List.setIfInBounds_toArray, List.set_cons_zero, List.set_cons_succ])
              go_cut [126] (fun v126 wc => ∃ (kq : Nat) (x126_103 : Bool), v126 = .bool x126_103 ∧ Aside0 (lockgatelaw03_TnumSound.j2 kq t529 x126_103 t525 t526 = some r) ∧ Aside0 (kq ≤ kj62) ∧ Aside0 (wc.heap[gb523]? = some (.cells #[.int .u64 t525, .int .u64 t526] 24 (0, 0))) ∧ Aside0 (wc.heap[gb524]? = some (.cells #[.int .u64 t527, .int .u64 t528] 24 (0, 0))) ∧ Aside0 (Below w.heap.size w wc))
              case first =>
                have H := HC104.out
                clear HC104
                replace H := Option.bind_eq_some_iff.mp H
                obtain ⟨⟨t557, t558⟩, A1050, H⟩ := H
                replace H : ((lockgatelaw03_alu.f kj62 6 t529 (IntKind.u64.wrap (a4))).bind fun t559 => ((lockgatelaw03_has.f t557 t558 t559).bind fun t560 => (if t560 = true then ((tnum_Rsh.f t525 t526 a4).bind fun bt561 => ((lockgatelaw03_alu.f kj62 7 t529 (IntKind.u64.wrap (a4))).bind fun t563 => ((lockgatelaw03_has.f bt561.1 bt561.2 t563).bind fun t564 => (if t564 = true then ((tnum_Arsh.f t525 t526 a4 64).bind fun bt565 => ((lockgatelaw03_alu.f kj62 12 t529 (IntKind.u64.wrap (a4))).bind fun t567 => ((lockgatelaw03_has.f bt565.1 bt565.2 t567).bind fun t568 => (if t568 = true then ((tnum_Arsh.f t525 t526 a4 32).bind fun bt569 => ((lockgatelaw03_has.f bt569.1 bt569.2 t555).bind fun t571 => (lockgatelaw03_TnumSound.j2 kj62 t529 (!t571) t525 t526))) else (lockgatelaw03_TnumSound.j2 kj62 t529 true t525 t526))))) else (lockgatelaw03_TnumSound.j2 kj62 t529 true t525 t526))))) else (lockgatelaw03_TnumSound.j2 kj62 t529 true t525 t526)))) = some r := H
                have A105 := Aside0.mk A1050
                clear A1050
                replace H := Option.bind_eq_some_iff.mp H
                obtain ⟨t559, A1060, H⟩ := H
                replace H : ((lockgatelaw03_has.f t557 t558 t559).bind fun t560 => (if t560 = true then ((tnum_Rsh.f t525 t526 a4).bind fun bt561 => ((lockgatelaw03_alu.f kj62 7 t529 (IntKind.u64.wrap (a4))).bind fun t563 => ((lockgatelaw03_has.f bt561.1 bt561.2 t563).bind fun t564 => (if t564 = true then ((tnum_Arsh.f t525 t526 a4 64).bind fun bt565 => ((lockgatelaw03_alu.f kj62 12 t529 (IntKind.u64.wrap (a4))).bind fun t567 => ((lockgatelaw03_has.f bt565.1 bt565.2 t567).bind fun t568 => (if t568 = true then ((tnum_Arsh.f t525 t526 a4 32).bind fun bt569 => ((lockgatelaw03_has.f bt569.1 bt569.2 t555).bind fun t571 => (lockgatelaw03_TnumSound.j2 kj62 t529 (!t571) t525 t526))) else (lockgatelaw03_TnumSound.j2 kj62 t529 true t525 t526))))) else (lockgatelaw03_TnumSound.j2 kj62 t529 true t525 t526))))) else (lockgatelaw03_TnumSound.j2 kj62 t529 true t525 t526))) = some r := H
                have A106 := Aside0.mk A1060
                clear A1060
                replace H := Option.bind_eq_some_iff.mp H
                obtain ⟨t560, A1070, H⟩ := H
                replace H : (if t560 = true then ((tnum_Rsh.f t525 t526 a4).bind fun bt561 => ((lockgatelaw03_alu.f kj62 7 t529 (IntKind.u64.wrap (a4))).bind fun t563 => ((lockgatelaw03_has.f bt561.1 bt561.2 t563).bind fun t564 => (if t564 = true then ((tnum_Arsh.f t525 t526 a4 64).bind fun bt565 => ((lockgatelaw03_alu.f kj62 12 t529 (IntKind.u64.wrap (a4))).bind fun t567 => ((lockgatelaw03_has.f bt565.1 bt565.2 t567).bind fun t568 => (if t568 = true then ((tnum_Arsh.f t525 t526 a4 32).bind fun bt569 => ((lockgatelaw03_has.f bt569.1 bt569.2 t555).bind fun t571 => (lockgatelaw03_TnumSound.j2 kj62 t529 (!t571) t525 t526))) else (lockgatelaw03_TnumSound.j2 kj62 t529 true t525 t526))))) else (lockgatelaw03_TnumSound.j2 kj62 t529 true t525 t526))))) else (lockgatelaw03_TnumSound.j2 kj62 t529 true t525 t526)) = some r := H
                have A107 := Aside0.mk A1070
                clear A1070
                by_cases c108 : t560 = true
                · subst c108
                  have H1 : ((tnum_Rsh.f t525 t526 a4).bind fun bt561 => ((lockgatelaw03_alu.f kj62 7 t529 (IntKind.u64.wrap (a4))).bind fun t563 => ((lockgatelaw03_has.f bt561.1 bt561.2 t563).bind fun t564 => (if t564 = true then ((tnum_Arsh.f t525 t526 a4 64).bind fun bt565 => ((lockgatelaw03_alu.f kj62 12 t529 (IntKind.u64.wrap (a4))).bind fun t567 => ((lockgatelaw03_has.f bt565.1 bt565.2 t567).bind fun t568 => (if t568 = true then ((tnum_Arsh.f t525 t526 a4 32).bind fun bt569 => ((lockgatelaw03_has.f bt569.1 bt569.2 t555).bind fun t571 => (lockgatelaw03_TnumSound.j2 kj62 t529 (!t571) t525 t526))) else (lockgatelaw03_TnumSound.j2 kj62 t529 true t525 t526))))) else (lockgatelaw03_TnumSound.j2 kj62 t529 true t525 t526))))) = some r := by rw [if_pos rfl] at H; exact H
                  clear H
                  have H := H1
                  clear H1
                  replace H := Option.bind_eq_some_iff.mp H
                  obtain ⟨⟨t561, t562⟩, A1090, H⟩ := H
                  replace H : ((lockgatelaw03_alu.f kj62 7 t529 (IntKind.u64.wrap (a4))).bind fun t563 => ((lockgatelaw03_has.f t561 t562 t563).bind fun t564 => (if t564 = true then ((tnum_Arsh.f t525 t526 a4 64).bind fun bt565 => ((lockgatelaw03_alu.f kj62 12 t529 (IntKind.u64.wrap (a4))).bind fun t567 => ((lockgatelaw03_has.f bt565.1 bt565.2 t567).bind fun t568 => (if t568 = true then ((tnum_Arsh.f t525 t526 a4 32).bind fun bt569 => ((lockgatelaw03_has.f bt569.1 bt569.2 t555).bind fun t571 => (lockgatelaw03_TnumSound.j2 kj62 t529 (!t571) t525 t526))) else (lockgatelaw03_TnumSound.j2 kj62 t529 true t525 t526))))) else (lockgatelaw03_TnumSound.j2 kj62 t529 true t525 t526)))) = some r := H
                  have A109 := Aside0.mk A1090
                  clear A1090
                  replace H := Option.bind_eq_some_iff.mp H
                  obtain ⟨t563, A1100, H⟩ := H
                  replace H : ((lockgatelaw03_has.f t561 t562 t563).bind fun t564 => (if t564 = true then ((tnum_Arsh.f t525 t526 a4 64).bind fun bt565 => ((lockgatelaw03_alu.f kj62 12 t529 (IntKind.u64.wrap (a4))).bind fun t567 => ((lockgatelaw03_has.f bt565.1 bt565.2 t567).bind fun t568 => (if t568 = true then ((tnum_Arsh.f t525 t526 a4 32).bind fun bt569 => ((lockgatelaw03_has.f bt569.1 bt569.2 t555).bind fun t571 => (lockgatelaw03_TnumSound.j2 kj62 t529 (!t571) t525 t526))) else (lockgatelaw03_TnumSound.j2 kj62 t529 true t525 t526))))) else (lockgatelaw03_TnumSound.j2 kj62 t529 true t525 t526))) = some r := H
                  have A110 := Aside0.mk A1100
                  clear A1100
                  replace H := Option.bind_eq_some_iff.mp H
                  obtain ⟨t564, A1110, H⟩ := H
                  replace H : (if t564 = true then ((tnum_Arsh.f t525 t526 a4 64).bind fun bt565 => ((lockgatelaw03_alu.f kj62 12 t529 (IntKind.u64.wrap (a4))).bind fun t567 => ((lockgatelaw03_has.f bt565.1 bt565.2 t567).bind fun t568 => (if t568 = true then ((tnum_Arsh.f t525 t526 a4 32).bind fun bt569 => ((lockgatelaw03_has.f bt569.1 bt569.2 t555).bind fun t571 => (lockgatelaw03_TnumSound.j2 kj62 t529 (!t571) t525 t526))) else (lockgatelaw03_TnumSound.j2 kj62 t529 true t525 t526))))) else (lockgatelaw03_TnumSound.j2 kj62 t529 true t525 t526)) = some r := H
                  have A111 := Aside0.mk A1110
                  clear A1110
                  by_cases c112 : t564 = true
                  · subst c112
                    have H1 : ((tnum_Arsh.f t525 t526 a4 64).bind fun bt565 => ((lockgatelaw03_alu.f kj62 12 t529 (IntKind.u64.wrap (a4))).bind fun t567 => ((lockgatelaw03_has.f bt565.1 bt565.2 t567).bind fun t568 => (if t568 = true then ((tnum_Arsh.f t525 t526 a4 32).bind fun bt569 => ((lockgatelaw03_has.f bt569.1 bt569.2 t555).bind fun t571 => (lockgatelaw03_TnumSound.j2 kj62 t529 (!t571) t525 t526))) else (lockgatelaw03_TnumSound.j2 kj62 t529 true t525 t526))))) = some r := by rw [if_pos rfl] at H; exact H
                    clear H
                    have H := H1
                    clear H1
                    replace H := Option.bind_eq_some_iff.mp H
                    obtain ⟨⟨t565, t566⟩, A1130, H⟩ := H
                    replace H : ((lockgatelaw03_alu.f kj62 12 t529 (IntKind.u64.wrap (a4))).bind fun t567 => ((lockgatelaw03_has.f t565 t566 t567).bind fun t568 => (if t568 = true then ((tnum_Arsh.f t525 t526 a4 32).bind fun bt569 => ((lockgatelaw03_has.f bt569.1 bt569.2 t555).bind fun t571 => (lockgatelaw03_TnumSound.j2 kj62 t529 (!t571) t525 t526))) else (lockgatelaw03_TnumSound.j2 kj62 t529 true t525 t526)))) = some r := H
                    have A113 := Aside0.mk A1130
                    clear A1130
                    replace H := Option.bind_eq_some_iff.mp H
                    obtain ⟨t567, A1140, H⟩ := H
                    replace H : ((lockgatelaw03_has.f t565 t566 t567).bind fun t568 => (if t568 = true then ((tnum_Arsh.f t525 t526 a4 32).bind fun bt569 => ((lockgatelaw03_has.f bt569.1 bt569.2 t555).bind fun t571 => (lockgatelaw03_TnumSound.j2 kj62 t529 (!t571) t525 t526))) else (lockgatelaw03_TnumSound.j2 kj62 t529 true t525 t526))) = some r := H
                    have A114 := Aside0.mk A1140
                    clear A1140
                    replace H := Option.bind_eq_some_iff.mp H
                    obtain ⟨t568, A1150, H⟩ := H
                    replace H : (if t568 = true then ((tnum_Arsh.f t525 t526 a4 32).bind fun bt569 => ((lockgatelaw03_has.f bt569.1 bt569.2 t555).bind fun t571 => (lockgatelaw03_TnumSound.j2 kj62 t529 (!t571) t525 t526))) else (lockgatelaw03_TnumSound.j2 kj62 t529 true t525 t526)) = some r := H
                    have A115 := Aside0.mk A1150
                    clear A1150
                    by_cases c116 : t568 = true
                    · subst c116
                      have H1 : ((tnum_Arsh.f t525 t526 a4 32).bind fun bt569 => ((lockgatelaw03_has.f bt569.1 bt569.2 t555).bind fun t571 => (lockgatelaw03_TnumSound.j2 kj62 t529 (!t571) t525 t526))) = some r := by rw [if_pos rfl] at H; exact H
                      clear H
                      have H := H1
                      clear H1
                      replace H := Option.bind_eq_some_iff.mp H
                      obtain ⟨⟨t569, t570⟩, A1170, H⟩ := H
                      replace H : ((lockgatelaw03_has.f t569 t570 t555).bind fun t571 => (lockgatelaw03_TnumSound.j2 kj62 t529 (!t571) t525 t526)) = some r := H
                      have A117 := Aside0.mk A1170
                      clear A1170
                      replace H := Option.bind_eq_some_iff.mp H
                      obtain ⟨t571, A1180, H⟩ := H
                      replace H : (lockgatelaw03_TnumSound.j2 kj62 t529 (!t571) t525 t526) = some r := H
                      have A118 := Aside0.mk A1180
                      clear A1180
                      have H' := Aside0.mk H
                      clear H
                      have hnb119 := NB523_524.out
                      have hnc119 := NB524_523.out
                      have hcz120_0 : wc.cell? ⟨gb523, 0, none⟩ = some (.int .u64 t525) := (blk_cell BK523.out 0).trans rfl
                      have hcz120_1 : wc.cell? ⟨gb523, 1, none⟩ = some (.int .u64 t526) := (blk_cell BK523.out 1).trans rfl
                      have hfz120_0 := blk_frozen BK523.out 0
                      have hfz120_1 := blk_frozen BK523.out 1
                      go_wp2_with (first | ((with_reducible refine gate_callee (f := 36) rfl ?_); refine goesL_ (some 93) rfl rfl Try.func36 (by kernel_rfl) rfl #[.agg #[.int .u64 t525, .int .u64 t526], .int .i64 a4] rfl (by (try simp only [List.map_toArray, List.map_cons, List.map_nil]); first | done | rfl) ?_; (with_reducible refine (tnum_Lsh.calls t525 t526 a4 t557 t558 _ A105.out).mono ?_); rintro e w121 ⟨rfl, hb⟩; refine ⟨_, rfl, ?_⟩; have n0_ := Aside0.mk (blk_below (g := gb523) (o := .cells #[.int .u64 t525, .int .u64 t526] 24 (0, 0)) (by (with_reducible repeat (first | apply bN_21 | apply bD_21 | apply bA_21)); exact BK523.out) hb); have n1_ := Aside0.mk (blk_below (g := gb524) (o := .cells #[.int .u64 t527, .int .u64 t528] 24 (0, 0)) (by (with_reducible repeat (first | apply bN_21 | apply bD_21 | apply bA_21)); exact BK524.out) hb); have n2_ := Aside0.mk (below_step (by repeat (first | (with_reducible first | exact HB.out | apply lA_21 | apply lN_21 | apply lD_21 | refine lS_21 ?_ GE523.out | refine lS_21 ?_ GE524.out) | exact HB.out)) hb); clear BK523; clear BK524; clear HB; have BK523 := n0_; have BK524 := n1_; have HB := n2_; clear n0_ n1_ n2_; (try clear hb); (try clear hb2); (try clear hk); (try clear hi)) | ((with_reducible refine gate_callee (f := 48) rfl ?_); refine goesL_ (some 96) rfl rfl Try.func48 (by kernel_rfl) rfl #[.int .i64 6, .int .u64 t529, .int .u64 (IntKind.u64.wrap (a4))] rfl (by (try simp only [List.map_toArray, List.map_cons, List.map_nil]); first | done | rfl) ?_; (with_reducible refine (lockgatelaw03_alu.calls kj62 6 t529 (IntKind.u64.wrap (a4)) t559 _ A106.out).mono ?_); rintro e w' ⟨rfl, ⟨nd, rfl⟩⟩; refine ⟨_, rfl, ?_⟩) | ((with_reducible refine gate_callee (f := 49) rfl ?_); refine goesL_ (some 97) rfl rfl Try.func49 (by kernel_rfl) rfl #[.agg #[.int .u64 t557, .int .u64 t558], .int .u64 t559] rfl (by (try simp only [List.map_toArray, List.map_cons, List.map_nil]); first | done | rfl) ?_; (with_reducible refine (lockgatelaw03_has.calls t557 t558 t559 true _ A107.out).mono ?_); rintro e w122 ⟨rfl, hb⟩; refine ⟨_, rfl, ?_⟩; have n0_ := Aside0.mk (blk_below (g := gb523) (o := .cells #[.int .u64 t525, .int .u64 t526] 24 (0, 0)) (by (with_reducible repeat (first | apply bN_21 | apply bD_21 | apply bA_21)); exact BK523.out) hb); have n1_ := Aside0.mk (blk_below (g := gb524) (o := .cells #[.int .u64 t527, .int .u64 t528] 24 (0, 0)) (by (with_reducible repeat (first | apply bN_21 | apply bD_21 | apply bA_21)); exact BK524.out) hb); have n2_ := Aside0.mk (below_step (by repeat (first | (with_reducible first | exact HB.out | apply lA_21 | apply lN_21 | apply lD_21 | refine lS_21 ?_ GE523.out | refine lS_21 ?_ GE524.out) | exact HB.out)) hb); clear BK523; clear BK524; clear HB; have BK523 := n0_; have BK524 := n1_; have HB := n2_; clear n0_ n1_ n2_; (try clear hb); (try clear hb2); (try clear hk); (try clear hi); have hcz123_0 : w122.cell? ⟨gb523, 0, none⟩ = some (.int .u64 t525) := (blk_cell BK523.out 0).trans rfl; have hcz123_1 : w122.cell? ⟨gb523, 1, none⟩ = some (.int .u64 t526) := (blk_cell BK523.out 1).trans rfl; have hfz123_0 := blk_frozen BK523.out 0; have hfz123_1 := blk_frozen BK523.out 1) | (go_at_call 42; (with_reducible refine (tnum_Rsh.calls t525 t526 a4 t561 t562 _ A109.out).mono ?_); rintro e w124 ⟨rfl, hb⟩; have n0_ := Aside0.mk (blk_below (g := gb523) (o := .cells #[.int .u64 t525, .int .u64 t526] 24 (0, 0)) (by (with_reducible repeat (first | apply bN_21 | apply bD_21 | apply bA_21)); exact BK523.out) hb); have n1_ := Aside0.mk (blk_below (g := gb524) (o := .cells #[.int .u64 t527, .int .u64 t528] 24 (0, 0)) (by (with_reducible repeat (first | apply bN_21 | apply bD_21 | apply bA_21)); exact BK524.out) hb); have n2_ := Aside0.mk (below_step (by repeat (first | (with_reducible first | exact HB.out | apply lA_21 | apply lN_21 | apply lD_21 | refine lS_21 ?_ GE523.out | refine lS_21 ?_ GE524.out) | exact HB.out)) hb); clear BK523; clear BK524; clear HB; have BK523 := n0_; have BK524 := n1_; have HB := n2_; clear n0_ n1_ n2_; (try clear hb); (try clear hb2); (try clear hk); (try clear hi)) | (go_at_call 48; (with_reducible refine (lockgatelaw03_alu.calls kj62 7 t529 (IntKind.u64.wrap (a4)) t563 _ A110.out).mono ?_); rintro e w' ⟨rfl, ⟨nd, rfl⟩⟩) | (go_at_call 49; (with_reducible refine (lockgatelaw03_has.calls t561 t562 t563 true _ A111.out).mono ?_); rintro e w125 ⟨rfl, hb⟩; have n0_ := Aside0.mk (blk_below (g := gb523) (o := .cells #[.int .u64 t525, .int .u64 t526] 24 (0, 0)) (by (with_reducible repeat (first | apply bN_21 | apply bD_21 | apply bA_21)); exact BK523.out) hb); have n1_ := Aside0.mk (blk_below (g := gb524) (o := .cells #[.int .u64 t527, .int .u64 t528] 24 (0, 0)) (by (with_reducible repeat (first | apply bN_21 | apply bD_21 | apply bA_21)); exact BK524.out) hb); have n2_ := Aside0.mk (below_step (by repeat (first | (with_reducible first | exact HB.out | apply lA_21 | apply lN_21 | apply lD_21 | refine lS_21 ?_ GE523.out | refine lS_21 ?_ GE524.out) | exact HB.out)) hb); clear BK523; clear BK524; clear HB; have BK523 := n0_; have BK524 := n1_; have HB := n2_; clear n0_ n1_ n2_; (try clear hb); (try clear hb2); (try clear hk); (try clear hi); have hcz126_0 : w125.cell? ⟨gb523, 0, none⟩ = some (.int .u64 t525) := (blk_cell BK523.out 0).trans rfl; have hcz126_1 : w125.cell? ⟨gb523, 1, none⟩ = some (.int .u64 t526) := (blk_cell BK523.out 1).trans rfl; have hfz126_0 := blk_frozen BK523.out 0; have hfz126_1 := blk_frozen BK523.out 1) | (go_at_call 37; (with_reducible refine (tnum_Arsh.calls t525 t526 a4 64 t565 t566 _ A113.out).mono ?_); rintro e w127 ⟨rfl, hb⟩; have n0_ := Aside0.mk (blk_below (g := gb523) (o := .cells #[.int .u64 t525, .int .u64 t526] 24 (0, 0)) (by (with_reducible repeat (first | apply bN_21 | apply bD_21 | apply bA_21)); exact BK523.out) hb); have n1_ := Aside0.mk (blk_below (g := gb524) (o := .cells #[.int .u64 t527, .int .u64 t528] 24 (0, 0)) (by (with_reducible repeat (first | apply bN_21 | apply bD_21 | apply bA_21)); exact BK524.out) hb); have n2_ := Aside0.mk (below_step (by repeat (first | (with_reducible first | exact HB.out | apply lA_21 | apply lN_21 | apply lD_21 | refine lS_21 ?_ GE523.out | refine lS_21 ?_ GE524.out) | exact HB.out)) hb); clear BK523; clear BK524; clear HB; have BK523 := n0_; have BK524 := n1_; have HB := n2_; clear n0_ n1_ n2_; (try clear hb); (try clear hb2); (try clear hk); (try clear hi)) | (go_at_call 48; (with_reducible refine (lockgatelaw03_alu.calls kj62 12 t529 (IntKind.u64.wrap (a4)) t567 _ A114.out).mono ?_); rintro e w' ⟨rfl, ⟨nd, rfl⟩⟩) | (go_at_call 49; (with_reducible refine (lockgatelaw03_has.calls t565 t566 t567 true _ A115.out).mono ?_); rintro e w128 ⟨rfl, hb⟩; have n0_ := Aside0.mk (blk_below (g := gb523) (o := .cells #[.int .u64 t525, .int .u64 t526] 24 (0, 0)) (by (with_reducible repeat (first | apply bN_21 | apply bD_21 | apply bA_21)); exact BK523.out) hb); have n1_ := Aside0.mk (blk_below (g := gb524) (o := .cells #[.int .u64 t527, .int .u64 t528] 24 (0, 0)) (by (with_reducible repeat (first | apply bN_21 | apply bD_21 | apply bA_21)); exact BK524.out) hb); have n2_ := Aside0.mk (below_step (by repeat (first | (with_reducible first | exact HB.out | apply lA_21 | apply lN_21 | apply lD_21 | refine lS_21 ?_ GE523.out | refine lS_21 ?_ GE524.out) | exact HB.out)) hb); clear BK523; clear BK524; clear HB; have BK523 := n0_; have BK524 := n1_; have HB := n2_; clear n0_ n1_ n2_; (try clear hb); (try clear hb2); (try clear hk); (try clear hi); have hcz129_0 : w128.cell? ⟨gb523, 0, none⟩ = some (.int .u64 t525) := (blk_cell BK523.out 0).trans rfl; have hcz129_1 : w128.cell? ⟨gb523, 1, none⟩ = some (.int .u64 t526) := (blk_cell BK523.out 1).trans rfl; have hfz129_0 := blk_frozen BK523.out 0; have hfz129_1 := blk_frozen BK523.out 1) | (go_at_call 37; (with_reducible refine (tnum_Arsh.calls t525 t526 a4 32 t569 t570 _ A117.out).mono ?_); rintro e w130 ⟨rfl, hb⟩; have n0_ := Aside0.mk (blk_below (g := gb523) (o := .cells #[.int .u64 t525, .int .u64 t526] 24 (0, 0)) (by (with_reducible repeat (first | apply bN_21 | apply bD_21 | apply bA_21)); exact BK523.out) hb); have n1_ := Aside0.mk (blk_below (g := gb524) (o := .cells #[.int .u64 t527, .int .u64 t528] 24 (0, 0)) (by (with_reducible repeat (first | apply bN_21 | apply bD_21 | apply bA_21)); exact BK524.out) hb); have n2_ := Aside0.mk (below_step (by repeat (first | (with_reducible first | exact HB.out | apply lA_21 | apply lN_21 | apply lD_21 | refine lS_21 ?_ GE523.out | refine lS_21 ?_ GE524.out) | exact HB.out)) hb); clear BK523; clear BK524; clear HB; have BK523 := n0_; have BK524 := n1_; have HB := n2_; clear n0_ n1_ n2_; (try clear hb); (try clear hb2); (try clear hk); (try clear hi)) | (go_at_call 49; (with_reducible refine (lockgatelaw03_has.calls t569 t570 t555 t571 _ A118.out).mono ?_); rintro e w131 ⟨rfl, hb⟩; have n0_ := Aside0.mk (blk_below (g := gb523) (o := .cells #[.int .u64 t525, .int .u64 t526] 24 (0, 0)) (by (with_reducible repeat (first | apply bN_21 | apply bD_21 | apply bA_21)); exact BK523.out) hb); have n1_ := Aside0.mk (blk_below (g := gb524) (o := .cells #[.int .u64 t527, .int .u64 t528] 24 (0, 0)) (by (with_reducible repeat (first | apply bN_21 | apply bD_21 | apply bA_21)); exact BK524.out) hb); have n2_ := Aside0.mk (below_step (by repeat (first | (with_reducible first | exact HB.out | apply lA_21 | apply lN_21 | apply lD_21 | refine lS_21 ?_ GE523.out | refine lS_21 ?_ GE524.out) | exact HB.out)) hb); clear BK523; clear BK524; clear HB; have BK523 := n0_; have BK524 := n1_; have HB := n2_; clear n0_ n1_ n2_; (try clear hb); (try clear hb2); (try clear hk); (try clear hi)))
                      go_meet
                      case rel => exact ⟨_, (!t571), (by first | rfl | (simp; done) | (simp [*]; done)), H', ⟨by have := HJ9.out; have := HJ62.out; first | omega | exact Nat.le_refl _⟩, ⟨by (with_reducible repeat (first | apply bN_21 | apply bD_21 | apply bA_21)); exact BK523.out⟩, ⟨by (with_reducible repeat (first | apply bN_21 | apply bD_21 | apply bA_21)); exact BK524.out⟩, ⟨by repeat (first | (with_reducible first | exact HB.out | apply lA_21 | apply lN_21 | apply lD_21 | refine lS_21 ?_ GE523.out | refine lS_21 ?_ GE524.out) | exact HB.out)⟩⟩
                    · replace c116 := Bool.eq_false_iff.mpr c116
                      subst c116
                      have H1 : (lockgatelaw03_TnumSound.j2 kj62 t529 true t525 t526) = some r := by rw [if_neg (show ¬ (false = true) by decide)] at H; exact H
                      clear H
                      have H := H1
                      clear H1
                      have H' := Aside0.mk H
                      clear H
                      have hnb132 := NB523_524.out
                      have hnc132 := NB524_523.out
                      have hcz133_0 : wc.cell? ⟨gb523, 0, none⟩ = some (.int .u64 t525) := (blk_cell BK523.out 0).trans rfl
                      have hcz133_1 : wc.cell? ⟨gb523, 1, none⟩ = some (.int .u64 t526) := (blk_cell BK523.out 1).trans rfl
                      have hfz133_0 := blk_frozen BK523.out 0
                      have hfz133_1 := blk_frozen BK523.out 1
                      go_wp2_with (first | ((with_reducible refine gate_callee (f := 36) rfl ?_); refine goesL_ (some 93) rfl rfl Try.func36 (by kernel_rfl) rfl #[.agg #[.int .u64 t525, .int .u64 t526], .int .i64 a4] rfl (by (try simp only [List.map_toArray, List.map_cons, List.map_nil]); first | done | rfl) ?_; (with_reducible refine (tnum_Lsh.calls t525 t526 a4 t557 t558 _ A105.out).mono ?_); rintro e w134 ⟨rfl, hb⟩; refine ⟨_, rfl, ?_⟩; have n0_ := Aside0.mk (blk_below (g := gb523) (o := .cells #[.int .u64 t525, .int .u64 t526] 24 (0, 0)) (by (with_reducible repeat (first | apply bN_21 | apply bD_21 | apply bA_21)); exact BK523.out) hb); have n1_ := Aside0.mk (blk_below (g := gb524) (o := .cells #[.int .u64 t527, .int .u64 t528] 24 (0, 0)) (by (with_reducible repeat (first | apply bN_21 | apply bD_21 | apply bA_21)); exact BK524.out) hb); have n2_ := Aside0.mk (below_step (by repeat (first | (with_reducible first | exact HB.out | apply lA_21 | apply lN_21 | apply lD_21 | refine lS_21 ?_ GE523.out | refine lS_21 ?_ GE524.out) | exact HB.out)) hb); clear BK523; clear BK524; clear HB; have BK523 := n0_; have BK524 := n1_; have HB := n2_; clear n0_ n1_ n2_; (try clear hb); (try clear hb2); (try clear hk); (try clear hi)) | ((with_reducible refine gate_callee (f := 48) rfl ?_); refine goesL_ (some 96) rfl rfl Try.func48 (by kernel_rfl) rfl #[.int .i64 6, .int .u64 t529, .int .u64 (IntKind.u64.wrap (a4))] rfl (by (try simp only [List.map_toArray, List.map_cons, List.map_nil]); first | done | rfl) ?_; (with_reducible refine (lockgatelaw03_alu.calls kj62 6 t529 (IntKind.u64.wrap (a4)) t559 _ A106.out).mono ?_); rintro e w' ⟨rfl, ⟨nd, rfl⟩⟩; refine ⟨_, rfl, ?_⟩) | ((with_reducible refine gate_callee (f := 49) rfl ?_); refine goesL_ (some 97) rfl rfl Try.func49 (by kernel_rfl) rfl #[.agg #[.int .u64 t557, .int .u64 t558], .int .u64 t559] rfl (by (try simp only [List.map_toArray, List.map_cons, List.map_nil]); first | done | rfl) ?_; (with_reducible refine (lockgatelaw03_has.calls t557 t558 t559 true _ A107.out).mono ?_); rintro e w135 ⟨rfl, hb⟩; refine ⟨_, rfl, ?_⟩; have n0_ := Aside0.mk (blk_below (g := gb523) (o := .cells #[.int .u64 t525, .int .u64 t526] 24 (0, 0)) (by (with_reducible repeat (first | apply bN_21 | apply bD_21 | apply bA_21)); exact BK523.out) hb); have n1_ := Aside0.mk (blk_below (g := gb524) (o := .cells #[.int .u64 t527, .int .u64 t528] 24 (0, 0)) (by (with_reducible repeat (first | apply bN_21 | apply bD_21 | apply bA_21)); exact BK524.out) hb); have n2_ := Aside0.mk (below_step (by repeat (first | (with_reducible first | exact HB.out | apply lA_21 | apply lN_21 | apply lD_21 | refine lS_21 ?_ GE523.out | refine lS_21 ?_ GE524.out) | exact HB.out)) hb); clear BK523; clear BK524; clear HB; have BK523 := n0_; have BK524 := n1_; have HB := n2_; clear n0_ n1_ n2_; (try clear hb); (try clear hb2); (try clear hk); (try clear hi); have hcz136_0 : w135.cell? ⟨gb523, 0, none⟩ = some (.int .u64 t525) := (blk_cell BK523.out 0).trans rfl; have hcz136_1 : w135.cell? ⟨gb523, 1, none⟩ = some (.int .u64 t526) := (blk_cell BK523.out 1).trans rfl; have hfz136_0 := blk_frozen BK523.out 0; have hfz136_1 := blk_frozen BK523.out 1) | (go_at_call 42; (with_reducible refine (tnum_Rsh.calls t525 t526 a4 t561 t562 _ A109.out).mono ?_); rintro e w137 ⟨rfl, hb⟩; have n0_ := Aside0.mk (blk_below (g := gb523) (o := .cells #[.int .u64 t525, .int .u64 t526] 24 (0, 0)) (by (with_reducible repeat (first | apply bN_21 | apply bD_21 | apply bA_21)); exact BK523.out) hb); have n1_ := Aside0.mk (blk_below (g := gb524) (o := .cells #[.int .u64 t527, .int .u64 t528] 24 (0, 0)) (by (with_reducible repeat (first | apply bN_21 | apply bD_21 | apply bA_21)); exact BK524.out) hb); have n2_ := Aside0.mk (below_step (by repeat (first | (with_reducible first | exact HB.out | apply lA_21 | apply lN_21 | apply lD_21 | refine lS_21 ?_ GE523.out | refine lS_21 ?_ GE524.out) | exact HB.out)) hb); clear BK523; clear BK524; clear HB; have BK523 := n0_; have BK524 := n1_; have HB := n2_; clear n0_ n1_ n2_; (try clear hb); (try clear hb2); (try clear hk); (try clear hi)) | (go_at_call 48; (with_reducible refine (lockgatelaw03_alu.calls kj62 7 t529 (IntKind.u64.wrap (a4)) t563 _ A110.out).mono ?_); rintro e w' ⟨rfl, ⟨nd, rfl⟩⟩) | (go_at_call 49; (with_reducible refine (lockgatelaw03_has.calls t561 t562 t563 true _ A111.out).mono ?_); rintro e w138 ⟨rfl, hb⟩; have n0_ := Aside0.mk (blk_below (g := gb523) (o := .cells #[.int .u64 t525, .int .u64 t526] 24 (0, 0)) (by (with_reducible repeat (first | apply bN_21 | apply bD_21 | apply bA_21)); exact BK523.out) hb); have n1_ := Aside0.mk (blk_below (g := gb524) (o := .cells #[.int .u64 t527, .int .u64 t528] 24 (0, 0)) (by (with_reducible repeat (first | apply bN_21 | apply bD_21 | apply bA_21)); exact BK524.out) hb); have n2_ := Aside0.mk (below_step (by repeat (first | (with_reducible first | exact HB.out | apply lA_21 | apply lN_21 | apply lD_21 | refine lS_21 ?_ GE523.out | refine lS_21 ?_ GE524.out) | exact HB.out)) hb); clear BK523; clear BK524; clear HB; have BK523 := n0_; have BK524 := n1_; have HB := n2_; clear n0_ n1_ n2_; (try clear hb); (try clear hb2); (try clear hk); (try clear hi); have hcz139_0 : w138.cell? ⟨gb523, 0, none⟩ = some (.int .u64 t525) := (blk_cell BK523.out 0).trans rfl; have hcz139_1 : w138.cell? ⟨gb523, 1, none⟩ = some (.int .u64 t526) := (blk_cell BK523.out 1).trans rfl; have hfz139_0 := blk_frozen BK523.out 0; have hfz139_1 := blk_frozen BK523.out 1) | (go_at_call 37; (with_reducible refine (tnum_Arsh.calls t525 t526 a4 64 t565 t566 _ A113.out).mono ?_); rintro e w140 ⟨rfl, hb⟩; have n0_ := Aside0.mk (blk_below (g := gb523) (o := .cells #[.int .u64 t525, .int .u64 t526] 24 (0, 0)) (by (with_reducible repeat (first | apply bN_21 | apply bD_21 | apply bA_21)); exact BK523.out) hb); have n1_ := Aside0.mk (blk_below (g := gb524) (o := .cells #[.int .u64 t527, .int .u64 t528] 24 (0, 0)) (by (with_reducible repeat (first | apply bN_21 | apply bD_21 | apply bA_21)); exact BK524.out) hb); have n2_ := Aside0.mk (below_step (by repeat (first | (with_reducible first | exact HB.out | apply lA_21 | apply lN_21 | apply lD_21 | refine lS_21 ?_ GE523.out | refine lS_21 ?_ GE524.out) | exact HB.out)) hb); clear BK523; clear BK524; clear HB; have BK523 := n0_; have BK524 := n1_; have HB := n2_; clear n0_ n1_ n2_; (try clear hb); (try clear hb2); (try clear hk); (try clear hi)) | (go_at_call 48; (with_reducible refine (lockgatelaw03_alu.calls kj62 12 t529 (IntKind.u64.wrap (a4)) t567 _ A114.out).mono ?_); rintro e w' ⟨rfl, ⟨nd, rfl⟩⟩) | (go_at_call 49; (with_reducible refine (lockgatelaw03_has.calls t565 t566 t567 false _ A115.out).mono ?_); rintro e w141 ⟨rfl, hb⟩; have n0_ := Aside0.mk (blk_below (g := gb523) (o := .cells #[.int .u64 t525, .int .u64 t526] 24 (0, 0)) (by (with_reducible repeat (first | apply bN_21 | apply bD_21 | apply bA_21)); exact BK523.out) hb); have n1_ := Aside0.mk (blk_below (g := gb524) (o := .cells #[.int .u64 t527, .int .u64 t528] 24 (0, 0)) (by (with_reducible repeat (first | apply bN_21 | apply bD_21 | apply bA_21)); exact BK524.out) hb); have n2_ := Aside0.mk (below_step (by repeat (first | (with_reducible first | exact HB.out | apply lA_21 | apply lN_21 | apply lD_21 | refine lS_21 ?_ GE523.out | refine lS_21 ?_ GE524.out) | exact HB.out)) hb); clear BK523; clear BK524; clear HB; have BK523 := n0_; have BK524 := n1_; have HB := n2_; clear n0_ n1_ n2_; (try clear hb); (try clear hb2); (try clear hk); (try clear hi)))
                      go_meet
                      case rel => exact ⟨_, (true), (by first | rfl | (simp; done) | (simp [*]; done)), H', ⟨by have := HJ9.out; have := HJ62.out; first | omega | exact Nat.le_refl _⟩, ⟨by (with_reducible repeat (first | apply bN_21 | apply bD_21 | apply bA_21)); exact BK523.out⟩, ⟨by (with_reducible repeat (first | apply bN_21 | apply bD_21 | apply bA_21)); exact BK524.out⟩, ⟨by repeat (first | (with_reducible first | exact HB.out | apply lA_21 | apply lN_21 | apply lD_21 | refine lS_21 ?_ GE523.out | refine lS_21 ?_ GE524.out) | exact HB.out)⟩⟩
                  · replace c112 := Bool.eq_false_iff.mpr c112
                    subst c112
                    have H1 : (lockgatelaw03_TnumSound.j2 kj62 t529 true t525 t526) = some r := by rw [if_neg (show ¬ (false = true) by decide)] at H; exact H
                    clear H
                    have H := H1
                    clear H1
                    have H' := Aside0.mk H
                    clear H
                    have hnb142 := NB523_524.out
                    have hnc142 := NB524_523.out
                    have hcz143_0 : wc.cell? ⟨gb523, 0, none⟩ = some (.int .u64 t525) := (blk_cell BK523.out 0).trans rfl
                    have hcz143_1 : wc.cell? ⟨gb523, 1, none⟩ = some (.int .u64 t526) := (blk_cell BK523.out 1).trans rfl
                    have hfz143_0 := blk_frozen BK523.out 0
                    have hfz143_1 := blk_frozen BK523.out 1
                    go_wp2_with (first | ((with_reducible refine gate_callee (f := 36) rfl ?_); refine goesL_ (some 93) rfl rfl Try.func36 (by kernel_rfl) rfl #[.agg #[.int .u64 t525, .int .u64 t526], .int .i64 a4] rfl (by (try simp only [List.map_toArray, List.map_cons, List.map_nil]); first | done | rfl) ?_; (with_reducible refine (tnum_Lsh.calls t525 t526 a4 t557 t558 _ A105.out).mono ?_); rintro e w144 ⟨rfl, hb⟩; refine ⟨_, rfl, ?_⟩; have n0_ := Aside0.mk (blk_below (g := gb523) (o := .cells #[.int .u64 t525, .int .u64 t526] 24 (0, 0)) (by (with_reducible repeat (first | apply bN_21 | apply bD_21 | apply bA_21)); exact BK523.out) hb); have n1_ := Aside0.mk (blk_below (g := gb524) (o := .cells #[.int .u64 t527, .int .u64 t528] 24 (0, 0)) (by (with_reducible repeat (first | apply bN_21 | apply bD_21 | apply bA_21)); exact BK524.out) hb); have n2_ := Aside0.mk (below_step (by repeat (first | (with_reducible first | exact HB.out | apply lA_21 | apply lN_21 | apply lD_21 | refine lS_21 ?_ GE523.out | refine lS_21 ?_ GE524.out) | exact HB.out)) hb); clear BK523; clear BK524; clear HB; have BK523 := n0_; have BK524 := n1_; have HB := n2_; clear n0_ n1_ n2_; (try clear hb); (try clear hb2); (try clear hk); (try clear hi)) | ((with_reducible refine gate_callee (f := 48) rfl ?_); refine goesL_ (some 96) rfl rfl Try.func48 (by kernel_rfl) rfl #[.int .i64 6, .int .u64 t529, .int .u64 (IntKind.u64.wrap (a4))] rfl (by (try simp only [List.map_toArray, List.map_cons, List.map_nil]); first | done | rfl) ?_; (with_reducible refine (lockgatelaw03_alu.calls kj62 6 t529 (IntKind.u64.wrap (a4)) t559 _ A106.out).mono ?_); rintro e w' ⟨rfl, ⟨nd, rfl⟩⟩; refine ⟨_, rfl, ?_⟩) | ((with_reducible refine gate_callee (f := 49) rfl ?_); refine goesL_ (some 97) rfl rfl Try.func49 (by kernel_rfl) rfl #[.agg #[.int .u64 t557, .int .u64 t558], .int .u64 t559] rfl (by (try simp only [List.map_toArray, List.map_cons, List.map_nil]); first | done | rfl) ?_; (with_reducible refine (lockgatelaw03_has.calls t557 t558 t559 true _ A107.out).mono ?_); rintro e w145 ⟨rfl, hb⟩; refine ⟨_, rfl, ?_⟩; have n0_ := Aside0.mk (blk_below (g := gb523) (o := .cells #[.int .u64 t525, .int .u64 t526] 24 (0, 0)) (by (with_reducible repeat (first | apply bN_21 | apply bD_21 | apply bA_21)); exact BK523.out) hb); have n1_ := Aside0.mk (blk_below (g := gb524) (o := .cells #[.int .u64 t527, .int .u64 t528] 24 (0, 0)) (by (with_reducible repeat (first | apply bN_21 | apply bD_21 | apply bA_21)); exact BK524.out) hb); have n2_ := Aside0.mk (below_step (by repeat (first | (with_reducible first | exact HB.out | apply lA_21 | apply lN_21 | apply lD_21 | refine lS_21 ?_ GE523.out | refine lS_21 ?_ GE524.out) | exact HB.out)) hb); clear BK523; clear BK524; clear HB; have BK523 := n0_; have BK524 := n1_; have HB := n2_; clear n0_ n1_ n2_; (try clear hb); (try clear hb2); (try clear hk); (try clear hi); have hcz146_0 : w145.cell? ⟨gb523, 0, none⟩ = some (.int .u64 t525) := (blk_cell BK523.out 0).trans rfl; have hcz146_1 : w145.cell? ⟨gb523, 1, none⟩ = some (.int .u64 t526) := (blk_cell BK523.out 1).trans rfl; have hfz146_0 := blk_frozen BK523.out 0; have hfz146_1 := blk_frozen BK523.out 1) | (go_at_call 42; (with_reducible refine (tnum_Rsh.calls t525 t526 a4 t561 t562 _ A109.out).mono ?_); rintro e w147 ⟨rfl, hb⟩; have n0_ := Aside0.mk (blk_below (g := gb523) (o := .cells #[.int .u64 t525, .int .u64 t526] 24 (0, 0)) (by (with_reducible repeat (first | apply bN_21 | apply bD_21 | apply bA_21)); exact BK523.out) hb); have n1_ := Aside0.mk (blk_below (g := gb524) (o := .cells #[.int .u64 t527, .int .u64 t528] 24 (0, 0)) (by (with_reducible repeat (first | apply bN_21 | apply bD_21 | apply bA_21)); exact BK524.out) hb); have n2_ := Aside0.mk (below_step (by repeat (first | (with_reducible first | exact HB.out | apply lA_21 | apply lN_21 | apply lD_21 | refine lS_21 ?_ GE523.out | refine lS_21 ?_ GE524.out) | exact HB.out)) hb); clear BK523; clear BK524; clear HB; have BK523 := n0_; have BK524 := n1_; have HB := n2_; clear n0_ n1_ n2_; (try clear hb); (try clear hb2); (try clear hk); (try clear hi)) | (go_at_call 48; (with_reducible refine (lockgatelaw03_alu.calls kj62 7 t529 (IntKind.u64.wrap (a4)) t563 _ A110.out).mono ?_); rintro e w' ⟨rfl, ⟨nd, rfl⟩⟩) | (go_at_call 49; (with_reducible refine (lockgatelaw03_has.calls t561 t562 t563 false _ A111.out).mono ?_); rintro e w148 ⟨rfl, hb⟩; have n0_ := Aside0.mk (blk_below (g := gb523) (o := .cells #[.int .u64 t525, .int .u64 t526] 24 (0, 0)) (by (with_reducible repeat (first | apply bN_21 | apply bD_21 | apply bA_21)); exact BK523.out) hb); have n1_ := Aside0.mk (blk_below (g := gb524) (o := .cells #[.int .u64 t527, .int .u64 t528] 24 (0, 0)) (by (with_reducible repeat (first | apply bN_21 | apply bD_21 | apply bA_21)); exact BK524.out) hb); have n2_ := Aside0.mk (below_step (by repeat (first | (with_reducible first | exact HB.out | apply lA_21 | apply lN_21 | apply lD_21 | refine lS_21 ?_ GE523.out | refine lS_21 ?_ GE524.out) | exact HB.out)) hb); clear BK523; clear BK524; clear HB; have BK523 := n0_; have BK524 := n1_; have HB := n2_; clear n0_ n1_ n2_; (try clear hb); (try clear hb2); (try clear hk); (try clear hi)))
                    go_meet
                    case rel => exact ⟨_, (true), (by first | rfl | (simp; done) | (simp [*]; done)), H', ⟨by have := HJ9.out; have := HJ62.out; first | omega | exact Nat.le_refl _⟩, ⟨by (with_reducible repeat (first | apply bN_21 | apply bD_21 | apply bA_21)); exact BK523.out⟩, ⟨by (with_reducible repeat (first | apply bN_21 | apply bD_21 | apply bA_21)); exact BK524.out⟩, ⟨by repeat (first | (with_reducible first | exact HB.out | apply lA_21 | apply lN_21 | apply lD_21 | refine lS_21 ?_ GE523.out | refine lS_21 ?_ GE524.out) | exact HB.out)⟩⟩
                · replace c108 := Bool.eq_false_iff.mpr c108
                  subst c108
                  have H1 : (lockgatelaw03_TnumSound.j2 kj62 t529 true t525 t526) = some r := by rw [if_neg (show ¬ (false = true) by decide)] at H; exact H
                  clear H
                  have H := H1
                  clear H1
                  have H' := Aside0.mk H
                  clear H
                  have hnb149 := NB523_524.out
                  have hnc149 := NB524_523.out
                  have hcz150_0 : wc.cell? ⟨gb523, 0, none⟩ = some (.int .u64 t525) := (blk_cell BK523.out 0).trans rfl
                  have hcz150_1 : wc.cell? ⟨gb523, 1, none⟩ = some (.int .u64 t526) := (blk_cell BK523.out 1).trans rfl
                  have hfz150_0 := blk_frozen BK523.out 0
                  have hfz150_1 := blk_frozen BK523.out 1
                  go_wp2_with (first | ((with_reducible refine gate_callee (f := 36) rfl ?_); refine goesL_ (some 93) rfl rfl Try.func36 (by kernel_rfl) rfl #[.agg #[.int .u64 t525, .int .u64 t526], .int .i64 a4] rfl (by (try simp only [List.map_toArray, List.map_cons, List.map_nil]); first | done | rfl) ?_; (with_reducible refine (tnum_Lsh.calls t525 t526 a4 t557 t558 _ A105.out).mono ?_); rintro e w151 ⟨rfl, hb⟩; refine ⟨_, rfl, ?_⟩; have n0_ := Aside0.mk (blk_below (g := gb523) (o := .cells #[.int .u64 t525, .int .u64 t526] 24 (0, 0)) (by (with_reducible repeat (first | apply bN_21 | apply bD_21 | apply bA_21)); exact BK523.out) hb); have n1_ := Aside0.mk (blk_below (g := gb524) (o := .cells #[.int .u64 t527, .int .u64 t528] 24 (0, 0)) (by (with_reducible repeat (first | apply bN_21 | apply bD_21 | apply bA_21)); exact BK524.out) hb); have n2_ := Aside0.mk (below_step (by repeat (first | (with_reducible first | exact HB.out | apply lA_21 | apply lN_21 | apply lD_21 | refine lS_21 ?_ GE523.out | refine lS_21 ?_ GE524.out) | exact HB.out)) hb); clear BK523; clear BK524; clear HB; have BK523 := n0_; have BK524 := n1_; have HB := n2_; clear n0_ n1_ n2_; (try clear hb); (try clear hb2); (try clear hk); (try clear hi)) | ((with_reducible refine gate_callee (f := 48) rfl ?_); refine goesL_ (some 96) rfl rfl Try.func48 (by kernel_rfl) rfl #[.int .i64 6, .int .u64 t529, .int .u64 (IntKind.u64.wrap (a4))] rfl (by (try simp only [List.map_toArray, List.map_cons, List.map_nil]); first | done | rfl) ?_; (with_reducible refine (lockgatelaw03_alu.calls kj62 6 t529 (IntKind.u64.wrap (a4)) t559 _ A106.out).mono ?_); rintro e w' ⟨rfl, ⟨nd, rfl⟩⟩; refine ⟨_, rfl, ?_⟩) | ((with_reducible refine gate_callee (f := 49) rfl ?_); refine goesL_ (some 97) rfl rfl Try.func49 (by kernel_rfl) rfl #[.agg #[.int .u64 t557, .int .u64 t558], .int .u64 t559] rfl (by (try simp only [List.map_toArray, List.map_cons, List.map_nil]); first | done | rfl) ?_; (with_reducible refine (lockgatelaw03_has.calls t557 t558 t559 false _ A107.out).mono ?_); rintro e w152 ⟨rfl, hb⟩; refine ⟨_, rfl, ?_⟩; have n0_ := Aside0.mk (blk_below (g := gb523) (o := .cells #[.int .u64 t525, .int .u64 t526] 24 (0, 0)) (by (with_reducible repeat (first | apply bN_21 | apply bD_21 | apply bA_21)); exact BK523.out) hb); have n1_ := Aside0.mk (blk_below (g := gb524) (o := .cells #[.int .u64 t527, .int .u64 t528] 24 (0, 0)) (by (with_reducible repeat (first | apply bN_21 | apply bD_21 | apply bA_21)); exact BK524.out) hb); have n2_ := Aside0.mk (below_step (by repeat (first | (with_reducible first | exact HB.out | apply lA_21 | apply lN_21 | apply lD_21 | refine lS_21 ?_ GE523.out | refine lS_21 ?_ GE524.out) | exact HB.out)) hb); clear BK523; clear BK524; clear HB; have BK523 := n0_; have BK524 := n1_; have HB := n2_; clear n0_ n1_ n2_; (try clear hb); (try clear hb2); (try clear hk); (try clear hi)))
                  go_meet
                  case rel => exact ⟨_, (true), (by first | rfl | (simp; done) | (simp [*]; done)), H', ⟨by have := HJ9.out; have := HJ62.out; first | omega | exact Nat.le_refl _⟩, ⟨by (with_reducible repeat (first | apply bN_21 | apply bD_21 | apply bA_21)); exact BK523.out⟩, ⟨by (with_reducible repeat (first | apply bN_21 | apply bD_21 | apply bA_21)); exact BK524.out⟩, ⟨by repeat (first | (with_reducible first | exact HB.out | apply lA_21 | apply lN_21 | apply lD_21 | refine lS_21 ?_ GE523.out | refine lS_21 ?_ GE524.out) | exact HB.out)⟩⟩
              case rest =>
                clear HC104
                try clear c1
                try clear c2
                try clear p2
                try clear c3
                try clear c4
                try clear c5
                try clear c6
                try clear c7
                try clear c8
                try clear c9
                try clear c10
                try clear c11
                try clear c12
                try clear c13
                try clear c14
                try clear c15
                try clear c17
                try clear c27
                try clear c31
                try clear c34
                try clear c35
                try clear c36
                try clear c47
                try clear c48
                try clear c49
                try clear c57
                try clear c62
                try clear c67
                try clear c71
                try clear c75
                try clear c88
                try clear c97
                try clear c102
                try clear c108
                try clear c112
                try clear c116
                try clear c119
                try clear c132
                try clear c142
                try clear c149
                try clear hcz120_0
                try clear hcz120_1
                try clear hcz123_0
                try clear hcz123_1
                try clear hcz126_0
                try clear hcz126_1
                try clear hcz129_0
                try clear hcz129_1
                try clear hcz133_0
                try clear hcz133_1
                try clear hcz136_0
                try clear hcz136_1
                try clear hcz139_0
                try clear hcz139_1
                try clear hcz143_0
                try clear hcz143_1
                try clear hcz146_0
                try clear hcz146_1
                try clear hcz14_0
                try clear hcz14_1
                try clear hcz150_0
                try clear hcz150_1
                try clear hcz16_0
                try clear hcz16_1
                try clear hcz17_0
                try clear hcz17_1
                try clear hcz19_0
                try clear hcz19_1
                try clear hcz20_0
                try clear hcz20_1
                try clear hcz22_0
                try clear hcz22_1
                try clear hcz36_0
                try clear hcz36_1
                try clear hcz37_0
                try clear hcz37_1
                try clear hcz40_0
                try clear hcz40_1
                try clear hcz41_0
                try clear hcz41_1
                try clear hcz44_0
                try clear hcz44_1
                try clear hcz45_0
                try clear hcz45_1
                try clear hcz49_0
                try clear hcz49_1
                try clear hcz50_0
                try clear hcz50_1
                try clear hcz53_0
                try clear hcz53_1
                try clear hcz54_0
                try clear hcz54_1
                try clear hcz58_0
                try clear hcz58_1
                try clear hcz59_0
                try clear hcz59_1
                try clear hcz76_0
                try clear hcz76_1
                try clear hcz77_0
                try clear hcz77_1
                try clear hcz80_0
                try clear hcz80_1
                try clear hcz81_0
                try clear hcz81_1
                try clear hcz84_0
                try clear hcz84_1
                try clear hcz85_0
                try clear hcz85_1
                try clear hcz89_0
                try clear hcz89_1
                try clear hcz90_0
                try clear hcz90_1
                try clear hcz93_0
                try clear hcz93_1
                try clear hcz94_0
                try clear hcz94_1
                try clear hcz98_0
                try clear hcz98_1
                try clear hcz99_0
                try clear hcz99_1
                try clear hfz120_0
                try clear hfz120_1
                try clear hfz123_0
                try clear hfz123_1
                try clear hfz126_0
                try clear hfz126_1
                try clear hfz129_0
                try clear hfz129_1
                try clear hfz133_0
                try clear hfz133_1
                try clear hfz136_0
                try clear hfz136_1
                try clear hfz139_0
                try clear hfz139_1
                try clear hfz143_0
                try clear hfz143_1
                try clear hfz146_0
                try clear hfz146_1
                try clear hfz14_0
                try clear hfz14_1
                try clear hfz150_0
                try clear hfz150_1
                try clear hfz16_0
                try clear hfz16_1
                try clear hfz17_0
                try clear hfz17_1
                try clear hfz19_0
                try clear hfz19_1
                try clear hfz20_0
                try clear hfz20_1
                try clear hfz22_0
                try clear hfz22_1
                try clear hfz36_0
                try clear hfz36_1
                try clear hfz37_0
                try clear hfz37_1
                try clear hfz40_0
                try clear hfz40_1
                try clear hfz41_0
                try clear hfz41_1
                try clear hfz44_0
                try clear hfz44_1
                try clear hfz45_0
                try clear hfz45_1
                try clear hfz49_0
                try clear hfz49_1
                try clear hfz50_0
                try clear hfz50_1
                try clear hfz53_0
                try clear hfz53_1
                try clear hfz54_0
                try clear hfz54_1
                try clear hfz58_0
                try clear hfz58_1
                try clear hfz59_0
                try clear hfz59_1
                try clear hfz76_0
                try clear hfz76_1
                try clear hfz77_0
                try clear hfz77_1
                try clear hfz80_0
                try clear hfz80_1
                try clear hfz81_0
                try clear hfz81_1
                try clear hfz84_0
                try clear hfz84_1
                try clear hfz85_0
                try clear hfz85_1
                try clear hfz89_0
                try clear hfz89_1
                try clear hfz90_0
                try clear hfz90_1
                try clear hfz93_0
                try clear hfz93_1
                try clear hfz94_0
                try clear hfz94_1
                try clear hfz98_0
                try clear hfz98_1
                try clear hfz99_0
                try clear hfz99_1
                try clear p2
                obtain ⟨kq, x126_103, rfl, HA, HJ103, BK523, BK524, HB⟩ := hcut
                cases kq with
                | zero => exact absurd HA.out (by simp [lockgatelaw03_TnumSound.j2])
                | succ kj103 =>
                  have H := HA.out
                  clear HA
                  simp only [lockgatelaw03_TnumSound.j2] at H
                  by_cases c153 : x126_103 = true
                  · subst c153
                    have H1 : (some false) = some r := by rw [if_pos rfl] at H; exact H
                    clear H
                    have H := H1
                    clear H1
                    exact absurd ((Option.some.inj H).trans HRT.out) (by decide)
                  · replace c153 := Bool.eq_false_iff.mpr c153
                    subst c153
                    have H1 : (lockgatelaw03_TnumSound.l0 kj103 t529 1 t525 t526) = some r := by rw [if_neg (show ¬ (false = true) by decide)] at H; exact H
                    clear H
                    have H := H1
                    clear H1
                    have H' := Aside0.mk H
                    clear H
                    go_wp2
                    go_loopg [16] kj103 (fun kq v16 w' => ∃ (x16_4 : Int), v16 = .int .i64 x16_4 ∧ Aside0 (lockgatelaw03_TnumSound.l0 kq t529 x16_4 t525 t526 = some r) ∧ Aside0 (kq ≤ kj103) ∧ Aside0 (w'.heap[gb523]? = some (.cells #[.int .u64 t525, .int .u64 t526] 24 (0, 0))) ∧ Aside0 (w'.heap[gb524]? = some (.cells #[.int .u64 t527, .int .u64 t528] 24 (0, 0))) ∧ Aside0 (Below w.heap.size w w'))
                    case atStart => exact ⟨(1), (by first | rfl | (simp; done) | (simp [*]; done)), H', ⟨Nat.le_refl _⟩, ⟨by (with_reducible repeat (first | apply bN_21 | apply bD_21 | apply bA_21)); exact BK523.out⟩, ⟨by (with_reducible repeat (first | apply bN_21 | apply bD_21 | apply bA_21)); exact BK524.out⟩, ⟨by repeat (first | (with_reducible first | exact HB.out | apply lA_21 | apply lN_21 | apply lD_21 | refine lS_21 ?_ GE523.out | refine lS_21 ?_ GE524.out) | exact HB.out)⟩⟩
                    case round =>
                      clear H'
                      try clear c1
                      try clear c2
                      try clear p2
                      try clear c3
                      try clear c4
                      try clear c5
                      try clear c6
                      try clear c7
                      try clear c8
                      try clear c9
                      try clear c10
                      try clear c11
                      try clear c12
                      try clear c13
                      try clear c14
                      try clear c15
                      try clear c17
                      try clear c27
                      try clear c31
                      try clear c34
                      try clear c35
                      try clear c36
                      try clear c47
                      try clear c48
                      try clear c49
                      try clear c57
                      try clear c62
                      try clear c67
                      try clear c71
                      try clear c75
                      try clear c88
                      try clear c97
                      try clear c102
                      try clear c108
                      try clear c112
                      try clear c116
                      try clear c119
                      try clear c132
                      try clear c142
                      try clear c149
                      try clear c153
                      try clear hcz120_0
                      try clear hcz120_1
                      try clear hcz123_0
                      try clear hcz123_1
                      try clear hcz126_0
                      try clear hcz126_1
                      try clear hcz129_0
                      try clear hcz129_1
                      try clear hcz133_0
                      try clear hcz133_1
                      try clear hcz136_0
                      try clear hcz136_1
                      try clear hcz139_0
                      try clear hcz139_1
                      try clear hcz143_0
                      try clear hcz143_1
                      try clear hcz146_0
                      try clear hcz146_1
                      try clear hcz14_0
                      try clear hcz14_1
                      try clear hcz150_0
                      try clear hcz150_1
                      try clear hcz16_0
                      try clear hcz16_1
                      try clear hcz17_0
                      try clear hcz17_1
                      try clear hcz19_0
                      try clear hcz19_1
                      try clear hcz20_0
                      try clear hcz20_1
                      try clear hcz22_0
                      try clear hcz22_1
                      try clear hcz36_0
                      try clear hcz36_1
                      try clear hcz37_0
                      try clear hcz37_1
                      try clear hcz40_0
                      try clear hcz40_1
                      try clear hcz41_0
                      try clear hcz41_1
                      try clear hcz44_0
                      try clear hcz44_1
                      try clear hcz45_0
                      try clear hcz45_1
                      try clear hcz49_0
                      try clear hcz49_1
                      try clear hcz50_0
                      try clear hcz50_1
                      try clear hcz53_0
                      try clear hcz53_1
                      try clear hcz54_0
                      try clear hcz54_1
                      try clear hcz58_0
                      try clear hcz58_1
                      try clear hcz59_0
                      try clear hcz59_1
                      try clear hcz76_0
                      try clear hcz76_1
                      try clear hcz77_0
                      try clear hcz77_1
                      try clear hcz80_0
                      try clear hcz80_1
                      try clear hcz81_0
                      try clear hcz81_1
                      try clear hcz84_0
                      try clear hcz84_1
                      try clear hcz85_0
                      try clear hcz85_1
                      try clear hcz89_0
                      try clear hcz89_1
                      try clear hcz90_0
                      try clear hcz90_1
                      try clear hcz93_0
                      try clear hcz93_1
                      try clear hcz94_0
                      try clear hcz94_1
                      try clear hcz98_0
                      try clear hcz98_1
                      try clear hcz99_0
                      try clear hcz99_1
                      try clear hfz120_0
                      try clear hfz120_1
                      try clear hfz123_0
                      try clear hfz123_1
                      try clear hfz126_0
                      try clear hfz126_1
                      try clear hfz129_0
                      try clear hfz129_1
                      try clear hfz133_0
                      try clear hfz133_1
                      try clear hfz136_0
                      try clear hfz136_1
                      try clear hfz139_0
                      try clear hfz139_1
                      try clear hfz143_0
                      try clear hfz143_1
                      try clear hfz146_0
                      try clear hfz146_1
                      try clear hfz14_0
                      try clear hfz14_1
                      try clear hfz150_0
                      try clear hfz150_1
                      try clear hfz16_0
                      try clear hfz16_1
                      try clear hfz17_0
                      try clear hfz17_1
                      try clear hfz19_0
                      try clear hfz19_1
                      try clear hfz20_0
                      try clear hfz20_1
                      try clear hfz22_0
                      try clear hfz22_1
                      try clear hfz36_0
                      try clear hfz36_1
                      try clear hfz37_0
                      try clear hfz37_1
                      try clear hfz40_0
                      try clear hfz40_1
                      try clear hfz41_0
                      try clear hfz41_1
                      try clear hfz44_0
                      try clear hfz44_1
                      try clear hfz45_0
                      try clear hfz45_1
                      try clear hfz49_0
                      try clear hfz49_1
                      try clear hfz50_0
                      try clear hfz50_1
                      try clear hfz53_0
                      try clear hfz53_1
                      try clear hfz54_0
                      try clear hfz54_1
                      try clear hfz58_0
                      try clear hfz58_1
                      try clear hfz59_0
                      try clear hfz59_1
                      try clear hfz76_0
                      try clear hfz76_1
                      try clear hfz77_0
                      try clear hfz77_1
                      try clear hfz80_0
                      try clear hfz80_1
                      try clear hfz81_0
                      try clear hfz81_1
                      try clear hfz84_0
                      try clear hfz84_1
                      try clear hfz85_0
                      try clear hfz85_1
                      try clear hfz89_0
                      try clear hfz89_1
                      try clear hfz90_0
                      try clear hfz90_1
                      try clear hfz93_0
                      try clear hfz93_1
                      try clear hfz94_0
                      try clear hfz94_1
                      try clear hfz98_0
                      try clear hfz98_1
                      try clear hfz99_0
                      try clear hfz99_1
                      try clear p2
                      obtain ⟨x16_4, rfl, HA, HK4, BK523, BK524, HB⟩ := hrel
                      cases gk with
                      | zero => exact absurd HA.out (by simp [lockgatelaw03_TnumSound.l0])
                      | succ k4 =>
                        have H := HA.out
                        clear HA
                        simp only [lockgatelaw03_TnumSound.l0] at H
                        by_cases c154 : x16_4 < 8
                        · rw [if_pos c154] at H
                          have c154b0 : decide (x16_4 < 8) = true := decide_eq_true c154
                          clear c154
                          replace H := Option.bind_eq_some_iff.mp H
                          obtain ⟨⟨t576, t577⟩, A1550, H⟩ := H
                          replace H : (if 0 ≤ (IntKind.u64.wrap (wrap64 (8 * x16_4))) then (if (shl .u64 1 (IntKind.u64.wrap (wrap64 (8 * x16_4)))) = 0 then (none) else ((lockgatelaw03_has.f t576 t577 (Int.tmod t529 (shl .u64 1 (IntKind.u64.wrap (wrap64 (8 * x16_4)))))).bind fun t578 => (if t578 = true then (lockgatelaw03_TnumSound.l0 k4 t529 (wrap64 (x16_4 + 1)) t525 t526) else (some false)))) else (none)) = some r := H
                          have A155 := Aside0.mk A1550
                          clear A1550
                          obtain ⟨ji156, hji156⟩ : ∃ j_ : Int, (IntKind.u64.wrap (wrap64 (8 * x16_4))) = j_ := ⟨_, rfl⟩
                          replace H : (if 0 ≤ (ji156) then (if (shl .u64 1 (ji156)) = 0 then (none) else ((lockgatelaw03_has.f t576 t577 (Int.tmod t529 (shl .u64 1 (ji156)))).bind fun t578 => (if t578 = true then (lockgatelaw03_TnumSound.l0 k4 t529 (wrap64 (x16_4 + 1)) t525 t526) else (some false)))) else (none)) = some r := by first | (rw [hji156] at H; exact H) | (simp only [hji156] at H ⊢; exact H)
                          (try rw [hji156] at A155)
                          by_cases c157 : 0 ≤ (ji156)
                          · rw [if_pos c157] at H
                            have c157b0 := eq_true c157
                            have c157b1 : decide (0 ≤ (ji156)) = true := decide_eq_true c157
                            clear c157
                            obtain ⟨ji158, hji158⟩ : ∃ j_ : Int, (shl .u64 1 (ji156)) = j_ := ⟨_, rfl⟩
                            replace H : (if (ji158) = 0 then (none) else ((lockgatelaw03_has.f t576 t577 (Int.tmod t529 (ji158))).bind fun t578 => (if t578 = true then (lockgatelaw03_TnumSound.l0 k4 t529 (wrap64 (x16_4 + 1)) t525 t526) else (some false)))) = some r := by first | (rw [hji158] at H; exact H) | (simp only [hji158] at H ⊢; exact H)
                            (try rw [hji158] at A155)
                            have hji158_ : (IntKind.u64.wrap (1 * 2 ^ min (ji156).toNat 64)) = ji158 := hji158
                            have hji158z : (ji156) ≤ 64 → (IntKind.u64.wrap (1 * 2 ^ (ji156).toNat)) = ji158 := shl_small hji158
                            have hji158u : (IntKind.u64.wrap (2 ^ min (ji156).toNat 64)) = ji158 := by have h_ := hji158_; rw [Int.one_mul] at h_; exact h_
                            have hji158v : (ji156) ≤ 64 → (IntKind.u64.wrap (2 ^ (ji156).toNat)) = ji158 := fun hle_ => by have h_ := hji158z hle_; rw [Int.one_mul] at h_; exact h_
                            by_cases c159 : (ji158) = 0
                            · rw [if_pos c159] at H
                              exact absurd H (by simp)
                            · rw [if_neg c159] at H
                              have c159b0 : ((ji158) == 0) = false := beq_eq_false_iff_ne.mpr c159
                              have c159b1 : ((ji158) != 0) = true := bne_iff_ne.mpr c159
                              replace H := Option.bind_eq_some_iff.mp H
                              obtain ⟨t578, A1600, H⟩ := H
                              replace H : (if t578 = true then (lockgatelaw03_TnumSound.l0 k4 t529 (wrap64 (x16_4 + 1)) t525 t526) else (some false)) = some r := H
                              have A160 := Aside0.mk A1600
                              clear A1600
                              by_cases c161 : t578 = true
                              · subst c161
                                have H1 : (lockgatelaw03_TnumSound.l0 k4 t529 (wrap64 (x16_4 + 1)) t525 t526) = some r := by rw [if_pos rfl] at H; exact H
                                clear H
                                have H := H1
                                clear H1
                                have H' := Aside0.mk H
                                clear H
                                try go_wp2
                                have n0_ := Aside0.mk (blk_drew BK523.out)
                                have n1_ := Aside0.mk (blk_drew BK524.out)
                                have n2_ := Aside0.mk (below_drew1 HB.out)
                                clear BK523
                                clear BK524
                                clear HB
                                have BK523 := n0_
                                have BK524 := n1_
                                have HB := n2_
                                clear n0_ n1_ n2_
                                refine start_ (n := 11) (S := fun w' => w'.cell? ⟨gb523, 0, none⟩ = some (.int .u64 t525) ∧ w'.cell? ⟨gb523, 1, none⟩ = some (.int .u64 t526)) (ds := []) #[false, false, false, false, false, false, false, false, false, false, false] (by kernel_rfl) rfl rfl ⟨(blk_cell BK523.out 0).trans rfl, (blk_cell BK523.out 1).trans rfl⟩ (fun hHeld => ?_); refine with_tabW lockgatelaw03_TnumSound.tab16 lockgatelaw03_TnumSound.bits16 (fun HT_ HW_ => ?_)
                                generalize wr.drew = w162 at BK523 BK524 HB hHeld ⊢
                                refine pure_ (i := 1) (N := some 132) (v := ?_) (a' := ?_) #[false, true, false, false, false, false, false, false, false, false, false] rfl rfl (any_of HT_.out (by kernel_rfl)) (fun _ _ _ h => h) (Or.inl ⟨by rfl, ?_⟩) ?_ ?_
                                rotate_left
                                · intro w'
                                  go_simp
                                  with_reducible rfl
                                rotate_left
                                · simp only [Act.put, List.setIfInBounds_toArray, List.set_cons_zero, List.set_cons_succ, i64_w, i32_w]
                                  rfl
                                refine pure_ (i := 3) (N := some 134) (v := ?_) (a' := ?_) #[false, true, false, true, false, false, false, false, false, false, false] rfl rfl (any_of HT_.out (by kernel_rfl)) (fun _ _ _ h => h) (Or.inl ⟨by rfl, ?_⟩) ?_ ?_
                                rotate_left
                                · intro w'
                                  go_simp
                                  with_reducible rfl
                                rotate_left
                                · simp only [Act.put, List.setIfInBounds_toArray, List.set_cons_zero, List.set_cons_succ, i64_w, i32_w]
                                  rfl
                                refine pure_ (i := 4) (N := some 135) (v := ?_) (a' := ?_) #[false, true, false, true, true, false, false, false, false, false, false] rfl rfl (any_of HT_.out (by kernel_rfl)) (fun _ _ _ h => h) (Or.inl ⟨by rfl, ?_⟩) ?_ ?_
                                rotate_left
                                · intro w'
                                  go_simp
                                  with_reducible rfl
                                rotate_left
                                · simp only [Act.put, List.setIfInBounds_toArray, List.set_cons_zero, List.set_cons_succ, i64_w, i32_w]
                                  rfl
                                refine pure_ (i := 5) (N := some 136) (v := ?_) (a' := ?_) #[false, true, false, true, true, true, false, false, false, false, false] rfl rfl (any_of HT_.out (by kernel_rfl)) (fun _ _ _ h => h) (Or.inl ⟨by rfl, ?_⟩) ?_ ?_
                                rotate_left
                                · intro w'
                                  go_simp
                                  with_reducible rfl
                                rotate_left
                                · simp only [Act.put, List.setIfInBounds_toArray, List.set_cons_zero, List.set_cons_succ, i64_w, i32_w]
                                  rfl
                                refine pure_ (i := 6) (N := some 137) (v := ?_) (a' := ?_) #[false, true, false, true, true, true, true, false, false, false, false] rfl rfl (any_of HT_.out (by kernel_rfl)) (fun _ _ _ h => h) (Or.inl ⟨by rfl, ?_⟩) ?_ ?_
                                rotate_left
                                · intro w'
                                  go_simp
                                  with_reducible rfl
                                rotate_left
                                · simp only [Act.put, List.setIfInBounds_toArray, List.set_cons_zero, List.set_cons_succ, i64_w, i32_w]
                                  rfl
                                refine pure_ (i := 7) (N := some 138) (v := ?_) (a' := ?_) #[false, true, false, true, true, true, true, true, false, false, false] rfl rfl (any_of HT_.out (by kernel_rfl)) (fun _ _ _ h => h) (Or.inl ⟨by rfl, ?_⟩) ?_ ?_
                                rotate_left
                                · intro w'
                                  go_simp
                                  with_reducible rfl
                                rotate_left
                                · simp only [Act.put, List.setIfInBounds_toArray, List.set_cons_zero, List.set_cons_succ, i64_w, i32_w]
                                  rfl
                                refine pure_ (i := 8) (N := some 139) (v := ?_) (a' := ?_) #[false, true, false, true, true, true, true, true, true, false, false] rfl rfl (any_of HT_.out (by kernel_rfl)) (fun _ _ _ h => h) (Or.inl ⟨by rfl, ?_⟩) ?_ ?_
                                rotate_left
                                · intro w'
                                  go_simp
                                  with_reducible rfl
                                rotate_left
                                · simp only [Act.put, List.setIfInBounds_toArray, List.set_cons_zero, List.set_cons_succ, i64_w, i32_w]
                                  rfl
                                refine take_ (i := 0) (N := some 131) (v := ?_) (a' := ?_) #[true, true, false, true, true, true, true, true, true, false, false] rfl rfl (take_ofW HT_.out HW_.out (by kernel_rfl)) (fun _ _ _ h => h) (Or.inl ⟨by rfl, ?_⟩) hHeld ?_ ?_
                                rotate_left
                                · rintro w' ⟨s0, s1⟩
                                  go_simp
                                  with_reducible rfl
                                rotate_left
                                · simp only [Act.put, List.setIfInBounds_toArray, List.set_cons_zero, List.set_cons_succ, i64_w, i32_w]
                                  rfl
                                refine one_ (i := 2) (N := some 133) #[true, true, true, true, true, true, true, true, true, false, false] rfl rfl (one_of HT_.out (by kernel_rfl)) (by decide) (fun K hK => ?_)
                                refine goes_ Try.func45 (by kernel_rfl) rfl #[.agg #[.int .u64 t525, .int .u64 t526], .int .i64 x16_4] (by rfl) rfl rfl (by (try simp only [List.map_toArray, List.map_cons, List.map_nil]); first | done | rfl) ?_
                                with_reducible refine (tnum_Cut.calls t525 t526 x16_4 t576 t577 _ A155.out).mono ?_
                                rintro e w163 ⟨rfl, hb⟩
                                refine ⟨_, rfl, ?_⟩
                                have n0_ := Aside0.mk (blk_below (g := gb523) (o := .cells #[.int .u64 t525, .int .u64 t526] 24 (0, 0)) (by (with_reducible repeat (first | apply bN_21 | apply bD_21 | apply bA_21)); exact BK523.out) hb)
                                have n1_ := Aside0.mk (blk_below (g := gb524) (o := .cells #[.int .u64 t527, .int .u64 t528] 24 (0, 0)) (by (with_reducible repeat (first | apply bN_21 | apply bD_21 | apply bA_21)); exact BK524.out) hb)
                                have n2_ := Aside0.mk (below_step (by repeat (first | (with_reducible first | exact HB.out | apply lA_21 | apply lN_21 | apply lD_21 | refine lS_21 ?_ GE523.out | refine lS_21 ?_ GE524.out) | exact HB.out)) hb)
                                clear BK523
                                clear BK524
                                clear HB
                                have BK523 := n0_
                                have BK524 := n1_
                                have HB := n2_
                                clear n0_ n1_ n2_
                                (try clear hb)
                                (try clear hb2)
                                (try clear hk)
                                (try clear hi)
                                refine hK.out _ _ ⟨(blk_cell BK523.out 0).trans rfl, (blk_cell BK523.out 1).trans rfl⟩ (fun hHeld => ?_)
                                clear hK K
                                refine norm_ (a' := ?_) ?_ ?_
                                rotate_left
                                · show Act.put _ (some 133) _ = _
                                  simp only [Act.put, List.setIfInBounds_toArray, List.set_cons_zero, List.set_cons_succ, i64_w, i32_w]
                                  rfl
                                refine one_ (i := 9) (N := some 140) #[true, true, true, true, true, true, true, true, true, true, false] rfl rfl (one_of HT_.out (by kernel_rfl)) (by decide) (fun K hK => ?_)
                                refine goes_ Try.func49 (by kernel_rfl) rfl #[.agg #[.int .u64 t576, .int .u64 t577], .int .u64 (Int.tmod t529 (ji158))] (by rfl) rfl rfl (by (try simp only [List.map_toArray, List.map_cons, List.map_nil]); first | done | (simp only [hji158]; rfl) | rfl | (simp only [List.length_drop, List.length_take]; rfl)) ?_
                                with_reducible refine (lockgatelaw03_has.calls t576 t577 (Int.tmod t529 (ji158)) true _ A160.out).mono ?_
                                rintro e w164 ⟨rfl, hb⟩
                                refine ⟨_, rfl, ?_⟩
                                have n0_ := Aside0.mk (blk_below (g := gb523) (o := .cells #[.int .u64 t525, .int .u64 t526] 24 (0, 0)) (by (with_reducible repeat (first | apply bN_21 | apply bD_21 | apply bA_21)); exact BK523.out) hb)
                                have n1_ := Aside0.mk (blk_below (g := gb524) (o := .cells #[.int .u64 t527, .int .u64 t528] 24 (0, 0)) (by (with_reducible repeat (first | apply bN_21 | apply bD_21 | apply bA_21)); exact BK524.out) hb)
                                have n2_ := Aside0.mk (below_step (by repeat (first | (with_reducible first | exact HB.out | apply lA_21 | apply lN_21 | apply lD_21 | refine lS_21 ?_ GE523.out | refine lS_21 ?_ GE524.out) | exact HB.out)) hb)
                                clear BK523
                                clear BK524
                                clear HB
                                have BK523 := n0_
                                have BK524 := n1_
                                have HB := n2_
                                clear n0_ n1_ n2_
                                (try clear hb)
                                (try clear hb2)
                                (try clear hk)
                                (try clear hi)
                                refine hK.out _ _ ⟨(blk_cell BK523.out 0).trans rfl, (blk_cell BK523.out 1).trans rfl⟩ (fun hHeld => ?_)
                                clear hK K
                                refine norm_ (a' := ?_) ?_ ?_
                                rotate_left
                                · show Act.put _ (some 140) _ = _
                                  simp only [Act.put, List.setIfInBounds_toArray, List.set_cons_zero, List.set_cons_succ, i64_w, i32_w]
                                  rfl
                                refine pure_ (i := 10) (N := some 141) (v := ?_) (a' := ?_) #[true, true, true, true, true, true, true, true, true, true, true] rfl rfl (any_of HT_.out (by kernel_rfl)) (fun _ _ _ h => h) (Or.inl ⟨by rfl, ?_⟩) ?_ ?_
                                rotate_left
                                · intro w'
                                  go_simp
                                  with_reducible rfl
                                rotate_left
                                · simp only [Act.put, List.setIfInBounds_toArray, List.set_cons_zero, List.set_cons_succ, i64_w, i32_w]
                                  rfl
                                refine done_ (done_of HT_.out (by kernel_rfl)) ?_
                                try go_wp2
                                go_roundg k4
                                case measure => have := HJ9.out; have := HJ62.out; have := HJ103.out; have := HK4.out; omega
                                case rel => exact ⟨(wrap64 (x16_4 + 1)), (by first | rfl | (simp; done) | (simp [*]; done)), H', ⟨by have := HJ9.out; have := HJ62.out; have := HJ103.out; have := HK4.out; omega⟩, ⟨by (with_reducible repeat (first | apply bN_21 | apply bD_21 | apply bA_21)); exact BK523.out⟩, ⟨by (with_reducible repeat (first | apply bN_21 | apply bD_21 | apply bA_21)); exact BK524.out⟩, ⟨by repeat (first | (with_reducible first | exact HB.out | apply lA_21 | apply lN_21 | apply lD_21 | refine lS_21 ?_ GE523.out | refine lS_21 ?_ GE524.out) | exact HB.out)⟩⟩
                              · replace c161 := Bool.eq_false_iff.mpr c161
                                subst c161
                                have H1 : (some false) = some r := by rw [if_neg (show ¬ (false = true) by decide)] at H; exact H
                                clear H
                                have H := H1
                                clear H1
                                exact absurd ((Option.some.inj H).trans HRT.out) (by decide)
                          · rw [if_neg c157] at H
                            exact absurd H (by simp)
                        · rw [if_neg c154] at H
                          have c154b0 : decide (x16_4 < 8) = false := decide_eq_false c154
                          clear c154
                          replace H := Option.bind_eq_some_iff.mp H
                          obtain ⟨⟨t572, t573⟩, A1650, H⟩ := H
                          replace H : ((lockgatelaw03_has.f t572 t573 t529).bind fun t574 => (if t574 = true then ((lockgatelaw03_known.f k4).bind fun t575 => (some t575)) else (some false))) = some r := H
                          have A165 := Aside0.mk A1650
                          clear A1650
                          replace H := Option.bind_eq_some_iff.mp H
                          obtain ⟨t574, A1660, H⟩ := H
                          replace H : (if t574 = true then ((lockgatelaw03_known.f k4).bind fun t575 => (some t575)) else (some false)) = some r := H
                          have A166 := Aside0.mk A1660
                          clear A1660
                          by_cases c167 : t574 = true
                          · subst c167
                            have H1 : ((lockgatelaw03_known.f k4).bind fun t575 => (some t575)) = some r := by rw [if_pos rfl] at H; exact H
                            clear H
                            have H := H1
                            clear H1
                            replace H := Option.bind_eq_some_iff.mp H
                            obtain ⟨t575, A1680, H⟩ := H
                            replace H : (some t575) = some r := H
                            have A168 := Aside0.mk A1680
                            clear A1680
                            obtain rfl := Option.some.inj H
                            have hnb169 := NB523_524.out
                            have hnc169 := NB524_523.out
                            have hcz170_0 : wr.cell? ⟨gb523, 0, none⟩ = some (.int .u64 t525) := (blk_cell BK523.out 0).trans rfl
                            have hcz170_1 : wr.cell? ⟨gb523, 1, none⟩ = some (.int .u64 t526) := (blk_cell BK523.out 1).trans rfl
                            have hfz170_0 := blk_frozen BK523.out 0
                            have hfz170_1 := blk_frozen BK523.out 1
                            go_wp2_with (first | ((with_reducible refine gate_callee (f := 45) rfl ?_); refine goesL_ (some 143) rfl rfl Try.func45 (by kernel_rfl) rfl #[.agg #[.int .u64 t525, .int .u64 t526], .int .i64 8] rfl (by (try simp only [List.map_toArray, List.map_cons, List.map_nil]); first | done | rfl) ?_; (with_reducible refine (tnum_Cut.calls t525 t526 8 t572 t573 _ A165.out).mono ?_); rintro e w171 ⟨rfl, hb⟩; refine ⟨_, rfl, ?_⟩; have n0_ := Aside0.mk (blk_below (g := gb523) (o := .cells #[.int .u64 t525, .int .u64 t526] 24 (0, 0)) (by (with_reducible repeat (first | apply bN_21 | apply bD_21 | apply bA_21)); exact BK523.out) hb); have n1_ := Aside0.mk (blk_below (g := gb524) (o := .cells #[.int .u64 t527, .int .u64 t528] 24 (0, 0)) (by (with_reducible repeat (first | apply bN_21 | apply bD_21 | apply bA_21)); exact BK524.out) hb); have n2_ := Aside0.mk (below_step (by repeat (first | (with_reducible first | exact HB.out | apply lA_21 | apply lN_21 | apply lD_21 | refine lS_21 ?_ GE523.out | refine lS_21 ?_ GE524.out) | exact HB.out)) hb); clear BK523; clear BK524; clear HB; have BK523 := n0_; have BK524 := n1_; have HB := n2_; clear n0_ n1_ n2_; (try clear hb); (try clear hb2); (try clear hk); (try clear hi)) | ((with_reducible refine gate_callee (f := 49) rfl ?_); refine goesL_ (some 145) rfl rfl Try.func49 (by kernel_rfl) rfl #[.agg #[.int .u64 t572, .int .u64 t573], .int .u64 t529] rfl (by (try simp only [List.map_toArray, List.map_cons, List.map_nil]); first | done | rfl) ?_; (with_reducible refine (lockgatelaw03_has.calls t572 t573 t529 true _ A166.out).mono ?_); rintro e w172 ⟨rfl, hb⟩; refine ⟨_, rfl, ?_⟩; have n0_ := Aside0.mk (blk_below (g := gb523) (o := .cells #[.int .u64 t525, .int .u64 t526] 24 (0, 0)) (by (with_reducible repeat (first | apply bN_21 | apply bD_21 | apply bA_21)); exact BK523.out) hb); have n1_ := Aside0.mk (blk_below (g := gb524) (o := .cells #[.int .u64 t527, .int .u64 t528] 24 (0, 0)) (by (with_reducible repeat (first | apply bN_21 | apply bD_21 | apply bA_21)); exact BK524.out) hb); have n2_ := Aside0.mk (below_step (by repeat (first | (with_reducible first | exact HB.out | apply lA_21 | apply lN_21 | apply lD_21 | refine lS_21 ?_ GE523.out | refine lS_21 ?_ GE524.out) | exact HB.out)) hb); clear BK523; clear BK524; clear HB; have BK523 := n0_; have BK524 := n1_; have HB := n2_; clear n0_ n1_ n2_; (try clear hb); (try clear hb2); (try clear hk); (try clear hi)) | (go_at_call 16; (with_reducible refine (lockgatelaw03_known.calls k4  t575 _ A168.out).mono ?_); rintro e w173 ⟨rfl, hb⟩; have n0_ := Aside0.mk (blk_below (g := gb523) (o := .cells #[.int .u64 t525, .int .u64 t526] 24 (0, 0)) (by (with_reducible repeat (first | apply bN_21 | apply bD_21 | apply bA_21)); exact BK523.out) hb); have n1_ := Aside0.mk (blk_below (g := gb524) (o := .cells #[.int .u64 t527, .int .u64 t528] 24 (0, 0)) (by (with_reducible repeat (first | apply bN_21 | apply bD_21 | apply bA_21)); exact BK524.out) hb); have n2_ := Aside0.mk (below_step (by repeat (first | (with_reducible first | exact HB.out | apply lA_21 | apply lN_21 | apply lD_21 | refine lS_21 ?_ GE523.out | refine lS_21 ?_ GE524.out) | exact HB.out)) hb); clear BK523; clear BK524; clear HB; have BK523 := n0_; have BK524 := n1_; have HB := n2_; clear n0_ n1_ n2_; (try clear hb); (try clear hb2); (try clear hk); (try clear hi)))
                            go_ret
                            exact ⟨by first | rfl | (simp [errW_none, errW_some] <;> rfl) | (simp [*, errW_none, errW_some] <;> rfl), by repeat (first | (with_reducible first | exact HB.out | apply lA_21 | apply lN_21 | apply lD_21 | refine lS_21 ?_ GE523.out | refine lS_21 ?_ GE524.out) | exact HB.out)⟩
                          · replace c167 := Bool.eq_false_iff.mpr c167
                            subst c167
                            have H1 : (some false) = some r := by rw [if_neg (show ¬ (false = true) by decide)] at H; exact H
                            clear H
                            have H := H1
                            clear H1
                            exact absurd ((Option.some.inj H).trans HRT.out) (by decide)

end Go.Proofs.Ytkmnogcahpbdjaa.PA
