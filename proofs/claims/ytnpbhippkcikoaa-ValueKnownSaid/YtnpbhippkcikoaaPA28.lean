-- PRINTED by print.py (a twelfth state) out of the translation. Not trusted: Lean checks it.
import Derived.Test.YtnpbhippkcikoaaWTab
import Derived.Test.YtnpbhippkcikoaaWRepsOne
import Derived.Test.YtnpbhippkcikoaaWGuard
import Derived.Test.YtnpbhippkcikoaaPA0
import Derived.Test.YtnpbhippkcikoaaSq
import Derived.Test.YtnpbhippkcikoaaPA20
import Derived.Test.YtnpbhippkcikoaaPA21
import Derived.Test.YtnpbhippkcikoaaPA22
import Derived.Test.YtnpbhippkcikoaaPA23
import Derived.Test.YtnpbhippkcikoaaPA24
import Derived.Test.YtnpbhippkcikoaaPA25
import Derived.Test.YtnpbhippkcikoaaPA26
import Derived.Test.YtnpbhippkcikoaaPA27
namespace Go.Proofs.Ytnpbhippkcikoaa.PA
open Go.RowKit Go.Proofs.YtnpbhippkcikoaaW.PrintWords Go.Proofs.YtnpbhippkcikoaaW.PrintLast Go.Proofs.YtnpbhippkcikoaaW.PrintMore
attribute [local go_sem] max2_int min2_int max_two min_two max_three min_three max_four min_four   -- for this text's walks alone
set_option linter.unusedVariables false
set_option linter.unusedSimpArgs false

/-! ### lockgatelaw14_ValueKnown: function 10 -/
mutual
def lockgatelaw14_ValueKnown.l0 : Nat → List Int → Int → Option (Bool)
 | 0, _, _ => none
 | k + 1, x1, x2 => if x2 ≤ 16 then (lockgatelaw14_ValueKnown.l1 k x1 x2 (-1)) else ((lockgatelaw14_works.f k).bind fun t465 => (some t465))
def lockgatelaw14_ValueKnown.l1 : Nat → List Int → Int → Int → Option (Bool)
 | 0, _, _, _ => none
 | k + 1, x1, x2, x3 => if x3 ≤ 8 then (lockgatelaw14_ValueKnown.l2 k x1 x2 x3 (-1)) else (lockgatelaw14_ValueKnown.l3 k x1 x2 0)
def lockgatelaw14_ValueKnown.l2 : Nat → List Int → Int → Int → Int → Option (Bool)
 | 0, _, _, _, _ => none
 | k + 1, x1, x2, x3, x4 => if x4 ≤ 8 then (if (x1.length : Int) = 0 then (none) else (if 0 ≤ (Int.tmod (wrap64 ((wrap64 (x2 + x3)) + 9)) (x1.length : Int)) then (if (Int.tmod (wrap64 ((wrap64 (x2 + x3)) + 9)) (x1.length : Int)) < (x1.length : Int) then (if 0 ≤ (Int.tmod (wrap64 ((wrap64 (x2 + x4)) + 5)) (x1.length : Int)) then (if (Int.tmod (wrap64 ((wrap64 (x2 + x4)) + 5)) (x1.length : Int)) < (x1.length : Int) then ((lockgatelaw14_ValueMakes.f k x2 true x3 (rd x1 (Int.tmod (wrap64 ((wrap64 (x2 + x3)) + 9)) (x1.length : Int))) 3 x4 (rd x1 (Int.tmod (wrap64 ((wrap64 (x2 + x4)) + 5)) (x1.length : Int))) 2).bind fun t471 => (if t471 = true then ((lockgatelaw14_ValueMakes.f k x2 false x3 (rd x1 (Int.tmod (wrap64 ((wrap64 (x2 + x3)) + 9)) (x1.length : Int))) 3 x4 (rd x1 (Int.tmod (wrap64 ((wrap64 (x2 + x4)) + 5)) (x1.length : Int))) 2).bind fun t472 => (if t472 = true then ((lockgatelaw14_ValueCompares.f k x2 true x3 (rd x1 (Int.tmod (wrap64 ((wrap64 (x2 + x3)) + 9)) (x1.length : Int))) 3 x4 (rd x1 (Int.tmod (wrap64 ((wrap64 (x2 + x4)) + 5)) (x1.length : Int))) 2 14).bind fun t473 => (if t473 = true then ((lockgatelaw14_ValueCompares.f k x2 false x3 (rd x1 (Int.tmod (wrap64 ((wrap64 (x2 + x3)) + 9)) (x1.length : Int))) 3 x4 (rd x1 (Int.tmod (wrap64 ((wrap64 (x2 + x4)) + 5)) (x1.length : Int))) 2 14).bind fun t474 => (if t474 = true then ((lockgatelaw14_ValueCompares.f k x2 true x3 (rd x1 (Int.tmod (wrap64 ((wrap64 (x2 + x3)) + 9)) (x1.length : Int))) 3 x4 0 1 14).bind fun t475 => (if t475 = true then ((lockgatelaw14_ValueCompares.f k x2 true x4 0 1 x3 (rd x1 (Int.tmod (wrap64 ((wrap64 (x2 + x3)) + 9)) (x1.length : Int))) 3 14).bind fun t476 => (if t476 = true then ((lockgatelaw14_ValuePointers.f k x2 true x3 (rd x1 (Int.tmod (wrap64 ((wrap64 (x2 + x3)) + 9)) (x1.length : Int))) 3 x4 (rd x1 (Int.tmod (wrap64 ((wrap64 (x2 + x4)) + 5)) (x1.length : Int))) 2).bind fun t477 => (if t477 = true then ((lockgatelaw14_ValuePointers.f k x2 false x3 (rd x1 (Int.tmod (wrap64 ((wrap64 (x2 + x3)) + 9)) (x1.length : Int))) 3 x4 (rd x1 (Int.tmod (wrap64 ((wrap64 (x2 + x4)) + 5)) (x1.length : Int))) 2).bind fun t478 => (if t478 = true then (lockgatelaw14_ValueKnown.l2 k x1 x2 x3 (wrap64 (x4 + 1))) else (some false))) else (some false))) else (some false))) else (some false))) else (some false))) else (some false))) else (some false))) else (some false))) else (none)) else (none)) else (none)) else (none))) else (if (x1.length : Int) = 0 then (none) else (if 0 ≤ (Int.tmod (wrap64 (x2 + 1)) (x1.length : Int)) then (if (Int.tmod (wrap64 (x2 + 1)) (x1.length : Int)) < (x1.length : Int) then ((lockgatelaw14_ValueSwaps.f k (wrap64 (x2 * 16)) ((Int.tmod x3 2) == 0) x3 (rd x1 (Int.tmod (wrap64 (x2 + 1)) (x1.length : Int))) 0).bind fun t480 => (if t480 = true then ((lockgatelaw14_ValueBack.f k x3 5 7 (rd x1 (Int.tmod (wrap64 (x2 + 1)) (x1.length : Int))) 9).bind fun t482 => (if t482 = true then (lockgatelaw14_ValueKnown.l1 k x1 x2 (wrap64 (x3 + 1))) else (some false))) else (some false))) else (none)) else (none)))
def lockgatelaw14_ValueKnown.l3 : Nat → List Int → Int → Int → Option (Bool)
 | 0, _, _, _ => none
 | k + 1, x1, x2, x8 => if x8 < (x1.length : Int) then (if 0 ≤ x8 then (if (x1.length : Int) = 0 then (none) else (if 0 ≤ (Int.tmod (wrap64 ((wrap64 ((wrap64 (x8 * 3)) + x2)) + 1)) (x1.length : Int)) then (if (Int.tmod (wrap64 ((wrap64 ((wrap64 (x8 * 3)) + x2)) + 1)) (x1.length : Int)) < (x1.length : Int) then ((lockgatelaw14_ValueNumbers.f k x2 ((Int.tmod x8 2) == 0) (rd x1 x8) (rd x1 (Int.tmod (wrap64 ((wrap64 ((wrap64 (x8 * 3)) + x2)) + 1)) (x1.length : Int))) 5).bind fun t485 => (if t485 = true then ((lockgatelaw14_ValueNumbers.f k (wrap64 (x2 * 16)) true (rd x1 x8) 1 5).bind fun t487 => (if t487 = true then ((lockgatelaw14_ValueOrders.f k (rd x1 x8) x2).bind fun t489 => (if t489 = true then (lockgatelaw14_ValueKnown.l3 k x1 x2 (wrap64 (x8 + 1))) else (some false))) else (some false))) else (some false))) else (none)) else (none))) else (none)) else (lockgatelaw14_ValueKnown.l0 k x1 (wrap64 (x2 + 1)))
end
def lockgatelaw14_ValueKnown.f (k : Nat)  : Option (Bool) := lockgatelaw14_ValueKnown.l0 k (([0, 1, 14, 2147483648, 4294967296, 9223372036854775807, 9223372036854775808, 18446744073709551615] : List Int)) (-1)
theorem lockgatelaw14_ValueKnown.mono_l : ∀ k, (∀ y0 y1, LeO (lockgatelaw14_ValueKnown.l0 k y0 y1) (lockgatelaw14_ValueKnown.l0 (k + 1) y0 y1)) ∧ (∀ y0 y1 y2, LeO (lockgatelaw14_ValueKnown.l1 k y0 y1 y2) (lockgatelaw14_ValueKnown.l1 (k + 1) y0 y1 y2)) ∧ (∀ y0 y1 y2 y3, LeO (lockgatelaw14_ValueKnown.l2 k y0 y1 y2 y3) (lockgatelaw14_ValueKnown.l2 (k + 1) y0 y1 y2 y3)) ∧ (∀ y0 y1 y2, LeO (lockgatelaw14_ValueKnown.l3 k y0 y1 y2) (lockgatelaw14_ValueKnown.l3 (k + 1) y0 y1 y2))
 | 0 => ⟨fun _ _ r h => by simp [lockgatelaw14_ValueKnown.l0] at h, fun _ _ _ r h => by simp [lockgatelaw14_ValueKnown.l1] at h, fun _ _ _ _ r h => by simp [lockgatelaw14_ValueKnown.l2] at h, fun _ _ _ r h => by simp [lockgatelaw14_ValueKnown.l3] at h⟩
 | k + 1 => by
  obtain ⟨ih0, ih1, ih2, ih3⟩ := lockgatelaw14_ValueKnown.mono_l k
  refine ⟨?_, ?_, ?_, ?_⟩
  ·intro y0 y1
   unfold lockgatelaw14_ValueKnown.l0
   repeat' first
   | (with_reducible exact ih0 _ _)
   | (with_reducible exact ih1 _ _ _)
   | (with_reducible exact ih2 _ _ _ _)
   | (with_reducible exact ih3 _ _ _)
   | (with_reducible exact lockgatelaw14_ValueBack.mono _ _ _ _ _ _)
   | (with_reducible exact lockgatelaw14_ValueCompares.mono _ _ _ _ _ _ _ _ _ _)
   | (with_reducible exact lockgatelaw14_ValueMakes.mono _ _ _ _ _ _ _ _ _)
   | (with_reducible exact lockgatelaw14_ValueNumbers.mono _ _ _ _ _ _)
   | (with_reducible exact lockgatelaw14_ValueOrders.mono _ _ _)
   | (with_reducible exact lockgatelaw14_ValuePointers.mono _ _ _ _ _ _ _ _ _)
   | (with_reducible exact lockgatelaw14_ValueSwaps.mono _ _ _ _ _ _)
   | (with_reducible exact lockgatelaw14_works.mono _)
   | (with_reducible exact LeO.refl _)
   | (with_reducible exact LeO.none _)
   | (with_reducible refine LeO.ite ?_ ?_)
   | (with_reducible refine LeO.bind ?_ (fun _ => ?_))
   | exact ih0 _ _
   | exact ih1 _ _ _
   | exact ih2 _ _ _ _
   | exact ih3 _ _ _
   | exact lockgatelaw14_ValueBack.mono _ _ _ _ _ _
   | exact lockgatelaw14_ValueCompares.mono _ _ _ _ _ _ _ _ _ _
   | exact lockgatelaw14_ValueMakes.mono _ _ _ _ _ _ _ _ _
   | exact lockgatelaw14_ValueNumbers.mono _ _ _ _ _ _
   | exact lockgatelaw14_ValueOrders.mono _ _ _
   | exact lockgatelaw14_ValuePointers.mono _ _ _ _ _ _ _ _ _
   | exact lockgatelaw14_ValueSwaps.mono _ _ _ _ _ _
   | exact lockgatelaw14_works.mono _
   | exact LeO.none _
   | refine LeO.ite ?_ ?_
   | refine LeO.bind ?_ (fun _ => ?_)
  ·intro y0 y1 y2
   unfold lockgatelaw14_ValueKnown.l1
   repeat' first
   | (with_reducible exact ih0 _ _)
   | (with_reducible exact ih1 _ _ _)
   | (with_reducible exact ih2 _ _ _ _)
   | (with_reducible exact ih3 _ _ _)
   | (with_reducible exact lockgatelaw14_ValueBack.mono _ _ _ _ _ _)
   | (with_reducible exact lockgatelaw14_ValueCompares.mono _ _ _ _ _ _ _ _ _ _)
   | (with_reducible exact lockgatelaw14_ValueMakes.mono _ _ _ _ _ _ _ _ _)
   | (with_reducible exact lockgatelaw14_ValueNumbers.mono _ _ _ _ _ _)
   | (with_reducible exact lockgatelaw14_ValueOrders.mono _ _ _)
   | (with_reducible exact lockgatelaw14_ValuePointers.mono _ _ _ _ _ _ _ _ _)
   | (with_reducible exact lockgatelaw14_ValueSwaps.mono _ _ _ _ _ _)
   | (with_reducible exact lockgatelaw14_works.mono _)
   | (with_reducible exact LeO.refl _)
   | (with_reducible exact LeO.none _)
   | (with_reducible refine LeO.ite ?_ ?_)
   | (with_reducible refine LeO.bind ?_ (fun _ => ?_))
   | exact ih0 _ _
   | exact ih1 _ _ _
   | exact ih2 _ _ _ _
   | exact ih3 _ _ _
   | exact lockgatelaw14_ValueBack.mono _ _ _ _ _ _
   | exact lockgatelaw14_ValueCompares.mono _ _ _ _ _ _ _ _ _ _
   | exact lockgatelaw14_ValueMakes.mono _ _ _ _ _ _ _ _ _
   | exact lockgatelaw14_ValueNumbers.mono _ _ _ _ _ _
   | exact lockgatelaw14_ValueOrders.mono _ _ _
   | exact lockgatelaw14_ValuePointers.mono _ _ _ _ _ _ _ _ _
   | exact lockgatelaw14_ValueSwaps.mono _ _ _ _ _ _
   | exact lockgatelaw14_works.mono _
   | exact LeO.none _
   | refine LeO.ite ?_ ?_
   | refine LeO.bind ?_ (fun _ => ?_)
  ·intro y0 y1 y2 y3
   unfold lockgatelaw14_ValueKnown.l2
   repeat' first
   | (with_reducible exact ih0 _ _)
   | (with_reducible exact ih1 _ _ _)
   | (with_reducible exact ih2 _ _ _ _)
   | (with_reducible exact ih3 _ _ _)
   | (with_reducible exact lockgatelaw14_ValueBack.mono _ _ _ _ _ _)
   | (with_reducible exact lockgatelaw14_ValueCompares.mono _ _ _ _ _ _ _ _ _ _)
   | (with_reducible exact lockgatelaw14_ValueMakes.mono _ _ _ _ _ _ _ _ _)
   | (with_reducible exact lockgatelaw14_ValueNumbers.mono _ _ _ _ _ _)
   | (with_reducible exact lockgatelaw14_ValueOrders.mono _ _ _)
   | (with_reducible exact lockgatelaw14_ValuePointers.mono _ _ _ _ _ _ _ _ _)
   | (with_reducible exact lockgatelaw14_ValueSwaps.mono _ _ _ _ _ _)
   | (with_reducible exact lockgatelaw14_works.mono _)
   | (with_reducible exact LeO.refl _)
   | (with_reducible exact LeO.none _)
   | (with_reducible refine LeO.ite ?_ ?_)
   | (with_reducible refine LeO.bind ?_ (fun _ => ?_))
   | exact ih0 _ _
   | exact ih1 _ _ _
   | exact ih2 _ _ _ _
   | exact ih3 _ _ _
   | exact lockgatelaw14_ValueBack.mono _ _ _ _ _ _
   | exact lockgatelaw14_ValueCompares.mono _ _ _ _ _ _ _ _ _ _
   | exact lockgatelaw14_ValueMakes.mono _ _ _ _ _ _ _ _ _
   | exact lockgatelaw14_ValueNumbers.mono _ _ _ _ _ _
   | exact lockgatelaw14_ValueOrders.mono _ _ _
   | exact lockgatelaw14_ValuePointers.mono _ _ _ _ _ _ _ _ _
   | exact lockgatelaw14_ValueSwaps.mono _ _ _ _ _ _
   | exact lockgatelaw14_works.mono _
   | exact LeO.none _
   | refine LeO.ite ?_ ?_
   | refine LeO.bind ?_ (fun _ => ?_)
  ·intro y0 y1 y2
   unfold lockgatelaw14_ValueKnown.l3
   repeat' first
   | (with_reducible exact ih0 _ _)
   | (with_reducible exact ih1 _ _ _)
   | (with_reducible exact ih2 _ _ _ _)
   | (with_reducible exact ih3 _ _ _)
   | (with_reducible exact lockgatelaw14_ValueBack.mono _ _ _ _ _ _)
   | (with_reducible exact lockgatelaw14_ValueCompares.mono _ _ _ _ _ _ _ _ _ _)
   | (with_reducible exact lockgatelaw14_ValueMakes.mono _ _ _ _ _ _ _ _ _)
   | (with_reducible exact lockgatelaw14_ValueNumbers.mono _ _ _ _ _ _)
   | (with_reducible exact lockgatelaw14_ValueOrders.mono _ _ _)
   | (with_reducible exact lockgatelaw14_ValuePointers.mono _ _ _ _ _ _ _ _ _)
   | (with_reducible exact lockgatelaw14_ValueSwaps.mono _ _ _ _ _ _)
   | (with_reducible exact lockgatelaw14_works.mono _)
   | (with_reducible exact LeO.refl _)
   | (with_reducible exact LeO.none _)
   | (with_reducible refine LeO.ite ?_ ?_)
   | (with_reducible refine LeO.bind ?_ (fun _ => ?_))
   | exact ih0 _ _
   | exact ih1 _ _ _
   | exact ih2 _ _ _ _
   | exact ih3 _ _ _
   | exact lockgatelaw14_ValueBack.mono _ _ _ _ _ _
   | exact lockgatelaw14_ValueCompares.mono _ _ _ _ _ _ _ _ _ _
   | exact lockgatelaw14_ValueMakes.mono _ _ _ _ _ _ _ _ _
   | exact lockgatelaw14_ValueNumbers.mono _ _ _ _ _ _
   | exact lockgatelaw14_ValueOrders.mono _ _ _
   | exact lockgatelaw14_ValuePointers.mono _ _ _ _ _ _ _ _ _
   | exact lockgatelaw14_ValueSwaps.mono _ _ _ _ _ _
   | exact lockgatelaw14_works.mono _
   | exact LeO.none _
   | refine LeO.ite ?_ ?_
   | refine LeO.bind ?_ (fun _ => ?_)
theorem lockgatelaw14_ValueKnown.mono : ∀ k, LeO (lockgatelaw14_ValueKnown.f k ) (lockgatelaw14_ValueKnown.f (k + 1) ) := by
 intro  k
 obtain ⟨ih0, ih1, ih2, ih3⟩ := lockgatelaw14_ValueKnown.mono_l k
 unfold lockgatelaw14_ValueKnown.f
 repeat' first
  | (with_reducible exact ih0 _ _)
  | (with_reducible exact ih1 _ _ _)
  | (with_reducible exact ih2 _ _ _ _)
  | (with_reducible exact ih3 _ _ _)
  | (with_reducible exact lockgatelaw14_ValueBack.mono _ _ _ _ _ _)
  | (with_reducible exact lockgatelaw14_ValueCompares.mono _ _ _ _ _ _ _ _ _ _)
  | (with_reducible exact lockgatelaw14_ValueMakes.mono _ _ _ _ _ _ _ _ _)
  | (with_reducible exact lockgatelaw14_ValueNumbers.mono _ _ _ _ _ _)
  | (with_reducible exact lockgatelaw14_ValueOrders.mono _ _ _)
  | (with_reducible exact lockgatelaw14_ValuePointers.mono _ _ _ _ _ _ _ _ _)
  | (with_reducible exact lockgatelaw14_ValueSwaps.mono _ _ _ _ _ _)
  | (with_reducible exact lockgatelaw14_works.mono _)
  | (with_reducible exact LeO.refl _)
  | (with_reducible exact LeO.none _)
  | (with_reducible refine LeO.ite ?_ ?_)
  | (with_reducible refine LeO.bind ?_ (fun _ => ?_))
  | exact ih0 _ _
  | exact ih1 _ _ _
  | exact ih2 _ _ _ _
  | exact ih3 _ _ _
  | exact lockgatelaw14_ValueBack.mono _ _ _ _ _ _
  | exact lockgatelaw14_ValueCompares.mono _ _ _ _ _ _ _ _ _ _
  | exact lockgatelaw14_ValueMakes.mono _ _ _ _ _ _ _ _ _
  | exact lockgatelaw14_ValueNumbers.mono _ _ _ _ _ _
  | exact lockgatelaw14_ValueOrders.mono _ _ _
  | exact lockgatelaw14_ValuePointers.mono _ _ _ _ _ _ _ _ _
  | exact lockgatelaw14_ValueSwaps.mono _ _ _ _ _ _
  | exact lockgatelaw14_works.mono _
  | exact LeO.none _
  | refine LeO.ite ?_ ?_
  | refine LeO.bind ?_ (fun _ => ?_)
def lockgatelaw14_ValueKnown.T21 : Bool × List (List Nat × List Nat) := (true, [([], []), ([], []), ([1], [1]), ([2], [2]), ([], []), ([], []), ([4, 5], [4, 5]), ([6], [6]), ([], []), ([], []), ([9], [9]), ([], []), ([10, 11], [10, 11]), ([12], [12]), ([], []), ([14], [14]), ([13, 15], [13, 15]), ([8, 16], [8, 16]), ([17], [17]), ([0, 3, 7, 18], [0, 3, 7, 18]), ([19], [19]), ([20, 19], [20]), ([21], [21]), ([22, 21], [21, 22]), ([21], [21]), ([21], [21]), ([24, 25, 21], [21, 24, 25]), ([26, 21], [21, 26]), ([23, 27, 21, 21], [21, 23, 27]), ([28, 21], [21, 28]), ([21, 29], [21, 29]), ([30, 28], [30]), ([31], [31]), ([31], [31]), ([32, 33, 31], [31, 32, 33]), ([34, 31], [31, 34]), ([31], [31]), ([35, 36, 31, 31], [31, 35, 36]), ([37, 31], [31, 37]), ([31, 38], [31, 38])])
def lockgatelaw14_ValueKnown.B21 : List Nat := [0, 0, 2, 6, 0, 0, 48, 112, 0, 0, 512, 0, 3584, 7680, 0, 16384, 65024, 130816, 261888, 524287, 1048575, 2097151, 4194303, 8388607, 4194303, 4194303, 54525951, 121634815, 268435455, 536870911, 1073741823, 2147483647, 4294967295, 4294967295, 17179869183, 34359738367, 4294967295, 137438953471, 274877906943, 549755813887]
theorem lockgatelaw14_ValueKnown.tab21 : rtab .any (opsOf Try.f10 21) = lockgatelaw14_ValueKnown.T21 := by kernel_rfl
theorem lockgatelaw14_ValueKnown.bits21 : waitsOk lockgatelaw14_ValueKnown.T21.2 lockgatelaw14_ValueKnown.B21 = true := by kernel_rfl
set_option maxHeartbeats 8000000 in
set_option maxRecDepth 100000 in
theorem lockgatelaw14_ValueKnown.calls (k : Nat)  (r : Bool) (w : World) (HRT : Aside0 (r = true)) (h : lockgatelaw14_ValueKnown.f k  = some r) :
 Calls Try.prog 10 #[] w fun e w' => e = .returned (.bool r) ∧ Below w.heap.size w w' := by
 have hu24 := Try.underlying24
 have HB := Aside0.mk (Below.refl w.heap.size w)
 have H : (lockgatelaw14_ValueKnown.l0 k (([0, 1, 14, 2147483648, 4294967296, 9223372036854775807, 9223372036854775808, 18446744073709551615] : List Int)) (-1)) = some r := h
 clear h
 obtain ⟨y462, hy462⟩ : ∃ y_ : List Int, y_ = (([0, 1, 14, 2147483648, 4294967296, 9223372036854775807, 9223372036854775808, 18446744073709551615] : List Int)) := ⟨_, rfl⟩
 replace H : (lockgatelaw14_ValueKnown.l0 k y462 (-1)) = some r := by first | (rw [hy462]; with_reducible exact H) | (have H2_ := (Option.bind_some _ _).symm.trans H; rw [hy462]; with_reducible exact H2_) | (have H2_ := (Option.bind_some _ _).symm.trans H; with_reducible exact H2_) | with_reducible exact H | (rw [hy462]; exact H) | exact H
 have Ny462 := Aside0.mk hy462
 clear hy462
 have H' := Aside0.mk H
 clear H
 go_enter Try.func10, Try.ntmps10
 go_wp2_with (first | ((with_reducible refine gate_dst (N := 9) rfl ?_); (try (refine gate_guard (by rfl) ?_; dsimp only)); refine Kd.R_lit (Kd.int .u64) _ 22 ?hg (N := 9) ?hd (xs := ([0, 1, 14, 2147483648, 4294967296, 9223372036854775807, 9223372036854775808, 18446744073709551615] : List Int)) (inner := [.int .u64 0, .int .u64 1, .int .u64 14, .int .u64 2147483648, .int .u64 4294967296, .int .u64 9223372036854775807, .int .u64 9223372036854775808, .int .u64 18446744073709551615]) (ok := fun _ => True) (okp := fun _ => True) ?hr ?hp (fun _ hk => hk) trivial (Below.refl _ _) (Nat.le_refl _) (by simp) ?_; (case hd => rfl); (case hg => rfl); (case hr => first | (go_simp; done) | (go_simp; rfl)); (case hp => exact (Reps.one (show Kd.M (Kd.int .u64) _ _ _ 0 [.int .u64 0] from rfl) (Reps.one (show Kd.M (Kd.int .u64) _ _ _ 1 [.int .u64 1] from rfl) (Reps.one (show Kd.M (Kd.int .u64) _ _ _ 14 [.int .u64 14] from rfl) (Reps.one (show Kd.M (Kd.int .u64) _ _ _ 2147483648 [.int .u64 2147483648] from rfl) (Reps.one (show Kd.M (Kd.int .u64) _ _ _ 4294967296 [.int .u64 4294967296] from rfl) (Reps.one (show Kd.M (Kd.int .u64) _ _ _ 9223372036854775807 [.int .u64 9223372036854775807] from rfl) (Reps.one (show Kd.M (Kd.int .u64) _ _ _ 9223372036854775808 [.int .u64 9223372036854775808] from rfl) (Reps.one (show Kd.M (Kd.int .u64) _ _ _ 18446744073709551615 [.int .u64 18446744073709551615] from rfl) (Reps.none _ _)))))))))); intro v463 w1 ho2 hb hg_ hnew_; clear hg_ hnew_; (first | rw [← Ny462.out] at ho2 | (simp only [Int.reduceToNat] at ho2; rw [← Ny462.out] at ho2)); have HO464 := Aside0.mk (Kd.R_lower ho2 (below_size bz_)); replace HB := bl_ hb; clear hb ho2))
 go_loopg [2] k (fun kq v2 w' => ∃ (x2_1 : Int), v2 = .int .i64 x2_1 ∧ Aside0 (lockgatelaw14_ValueKnown.l0 kq y462 x2_1 = some r) ∧ Aside0 (kq ≤ k) ∧ Aside0 (Kd.R (Kd.int .u64) 22 w' w.heap.size (fun _ => True) v463 y462) ∧ Aside0 (Below w.heap.size w w'))
 case atStart => exact ⟨((-1)), (by first | rfl | (simp; done) | (simp [*]; done)), H', ⟨Nat.le_refl _⟩, ⟨by (with_reducible repeat (first | apply Kd.R_alloc | apply Kd.R_drewN | apply Kd.R_drew)); exact HO464.out⟩, ⟨bz_⟩⟩
 case round =>
  clear H'
  try clear c1
  try clear p2
  obtain ⟨x2_1, rfl, HA, HK1, HO_1, HB⟩ := hrel
  cases gk with
  | zero => exact absurd HA.out (by simp [lockgatelaw14_ValueKnown.l0])
  | succ k1 =>
   have H := HA.out
   clear HA
   simp only [lockgatelaw14_ValueKnown.l0] at H
   by_cases c3 : x2_1 ≤ 16
   ·rw [if_pos c3] at H
    have c3b0 : decide (x2_1 ≤ 16) = true := decide_eq_true c3
    clear c3
    have H' := Aside0.mk H
    clear H
    go_wp2
    go_loopg [3] k1 (fun kq v3 w' => ∃ (x3_2 : Int), v3 = .int .i64 x3_2 ∧ Aside0 (lockgatelaw14_ValueKnown.l1 kq y462 x2_1 x3_2 = some r) ∧ Aside0 (kq ≤ k1) ∧ Aside0 (Kd.R (Kd.int .u64) 22 w' w.heap.size (fun _ => True) v463 y462) ∧ Aside0 (Below w.heap.size w w'))
    case atStart => exact ⟨((-1)), (by first | rfl | (simp; done) | (simp [*]; done)), H', ⟨Nat.le_refl _⟩, ⟨by (with_reducible repeat (first | apply Kd.R_alloc | apply Kd.R_drewN | apply Kd.R_drew)); exact HO_1.out⟩, ⟨bz_⟩⟩
    case round =>
     clear H'
     try clear c1
     try clear p2
     try clear c3
     try clear c3b0
     try clear p2
     obtain ⟨x3_2, rfl, HA, HK2, HO_1, HB⟩ := hrel
     cases gk with
     | zero => exact absurd HA.out (by simp [lockgatelaw14_ValueKnown.l1])
     | succ k2 =>
      have H := HA.out
      clear HA
      simp only [lockgatelaw14_ValueKnown.l1] at H
      by_cases c4 : x3_2 ≤ 8
      ·rw [if_pos c4] at H
       have c4b0 : decide (x3_2 ≤ 8) = true := decide_eq_true c4
       clear c4
       have H' := Aside0.mk H
       clear H
       go_wp2
       go_loopg [4] k2 (fun kq v4 w' => ∃ (x4_3 : Int), v4 = .int .i64 x4_3 ∧ Aside0 (lockgatelaw14_ValueKnown.l2 kq y462 x2_1 x3_2 x4_3 = some r) ∧ Aside0 (kq ≤ k2) ∧ Aside0 (Kd.R (Kd.int .u64) 22 w' w.heap.size (fun _ => True) v463 y462) ∧ Aside0 (Below w.heap.size w w'))
       case atStart => exact ⟨((-1)), (by first | rfl | (simp; done) | (simp [*]; done)), H', ⟨Nat.le_refl _⟩, ⟨by (with_reducible repeat (first | apply Kd.R_alloc | apply Kd.R_drewN | apply Kd.R_drew)); exact HO_1.out⟩, ⟨bz_⟩⟩
       case round =>
        clear H'
        try clear c1
        try clear p2
        try clear c3
        try clear c3b0
        try clear c4
        try clear c4b0
        try clear p2
        obtain ⟨x4_3, rfl, HA, HK3, HO_1, HB⟩ := hrel
        cases gk with
        | zero => exact absurd HA.out (by simp [lockgatelaw14_ValueKnown.l2])
        | succ k3 =>
         have H := HA.out
         clear HA
         simp only [lockgatelaw14_ValueKnown.l2] at H
         by_cases c5 : x4_3 ≤ 8
         ·rw [if_pos c5] at H
          have c5b0 : decide (x4_3 ≤ 8) = true := decide_eq_true c5
          clear c5
          by_cases c6 : (y462.length : Int) = 0
          ·rw [if_pos c6] at H
           exact absurd H (by simp)
          ·rw [if_neg c6] at H
           have c6b0 : ((y462.length : Int) == 0) = false := beq_eq_false_iff_ne.mpr c6
           have c6b1 : ((y462.length : Int) != 0) = true := bne_iff_ne.mpr c6
           have c6b2 : ¬ (y462 = []) := fun h_ => c6 (by rw [h_]; rfl)
           obtain ⟨ji7, hji7⟩ : ∃ j_ : Int, (Int.tmod (wrap64 ((wrap64 (x2_1 + x3_2)) + 9)) (y462.length : Int)) = j_ := ⟨_, rfl⟩
           replace H : (if 0 ≤ (ji7) then (if (ji7) < (y462.length : Int) then (if 0 ≤ (Int.tmod (wrap64 ((wrap64 (x2_1 + x4_3)) + 5)) (y462.length : Int)) then (if (Int.tmod (wrap64 ((wrap64 (x2_1 + x4_3)) + 5)) (y462.length : Int)) < (y462.length : Int) then ((lockgatelaw14_ValueMakes.f k3 x2_1 true x3_2 (rd y462 (ji7)) 3 x4_3 (rd y462 (Int.tmod (wrap64 ((wrap64 (x2_1 + x4_3)) + 5)) (y462.length : Int))) 2).bind fun t471 => (if t471 = true then ((lockgatelaw14_ValueMakes.f k3 x2_1 false x3_2 (rd y462 (ji7)) 3 x4_3 (rd y462 (Int.tmod (wrap64 ((wrap64 (x2_1 + x4_3)) + 5)) (y462.length : Int))) 2).bind fun t472 => (if t472 = true then ((lockgatelaw14_ValueCompares.f k3 x2_1 true x3_2 (rd y462 (ji7)) 3 x4_3 (rd y462 (Int.tmod (wrap64 ((wrap64 (x2_1 + x4_3)) + 5)) (y462.length : Int))) 2 14).bind fun t473 => (if t473 = true then ((lockgatelaw14_ValueCompares.f k3 x2_1 false x3_2 (rd y462 (ji7)) 3 x4_3 (rd y462 (Int.tmod (wrap64 ((wrap64 (x2_1 + x4_3)) + 5)) (y462.length : Int))) 2 14).bind fun t474 => (if t474 = true then ((lockgatelaw14_ValueCompares.f k3 x2_1 true x3_2 (rd y462 (ji7)) 3 x4_3 0 1 14).bind fun t475 => (if t475 = true then ((lockgatelaw14_ValueCompares.f k3 x2_1 true x4_3 0 1 x3_2 (rd y462 (ji7)) 3 14).bind fun t476 => (if t476 = true then ((lockgatelaw14_ValuePointers.f k3 x2_1 true x3_2 (rd y462 (ji7)) 3 x4_3 (rd y462 (Int.tmod (wrap64 ((wrap64 (x2_1 + x4_3)) + 5)) (y462.length : Int))) 2).bind fun t477 => (if t477 = true then ((lockgatelaw14_ValuePointers.f k3 x2_1 false x3_2 (rd y462 (ji7)) 3 x4_3 (rd y462 (Int.tmod (wrap64 ((wrap64 (x2_1 + x4_3)) + 5)) (y462.length : Int))) 2).bind fun t478 => (if t478 = true then (lockgatelaw14_ValueKnown.l2 k3 y462 x2_1 x3_2 (wrap64 (x4_3 + 1))) else (some false))) else (some false))) else (some false))) else (some false))) else (some false))) else (some false))) else (some false))) else (some false))) else (none)) else (none)) else (none)) else (none)) = some r := by first | (rw [hji7] at H; exact H) | (simp only [hji7] at H ⊢; exact H)
           by_cases c8 : 0 ≤ (ji7)
           ·rw [if_pos c8] at H
            have c8b0 : decide (0 ≤ (ji7)) = true := decide_eq_true c8
            clear c8
            by_cases c9 : (ji7) < (y462.length : Int)
            ·rw [if_pos c9] at H
             have c9b0 : decide ((ji7) < (y462.length : Int)) = true := decide_eq_true c9
             clear c9
             obtain ⟨ji10, hji10⟩ : ∃ j_ : Int, (Int.tmod (wrap64 ((wrap64 (x2_1 + x4_3)) + 5)) (y462.length : Int)) = j_ := ⟨_, rfl⟩
             replace H : (if 0 ≤ (ji10) then (if (ji10) < (y462.length : Int) then ((lockgatelaw14_ValueMakes.f k3 x2_1 true x3_2 (rd y462 (ji7)) 3 x4_3 (rd y462 (ji10)) 2).bind fun t471 => (if t471 = true then ((lockgatelaw14_ValueMakes.f k3 x2_1 false x3_2 (rd y462 (ji7)) 3 x4_3 (rd y462 (ji10)) 2).bind fun t472 => (if t472 = true then ((lockgatelaw14_ValueCompares.f k3 x2_1 true x3_2 (rd y462 (ji7)) 3 x4_3 (rd y462 (ji10)) 2 14).bind fun t473 => (if t473 = true then ((lockgatelaw14_ValueCompares.f k3 x2_1 false x3_2 (rd y462 (ji7)) 3 x4_3 (rd y462 (ji10)) 2 14).bind fun t474 => (if t474 = true then ((lockgatelaw14_ValueCompares.f k3 x2_1 true x3_2 (rd y462 (ji7)) 3 x4_3 0 1 14).bind fun t475 => (if t475 = true then ((lockgatelaw14_ValueCompares.f k3 x2_1 true x4_3 0 1 x3_2 (rd y462 (ji7)) 3 14).bind fun t476 => (if t476 = true then ((lockgatelaw14_ValuePointers.f k3 x2_1 true x3_2 (rd y462 (ji7)) 3 x4_3 (rd y462 (ji10)) 2).bind fun t477 => (if t477 = true then ((lockgatelaw14_ValuePointers.f k3 x2_1 false x3_2 (rd y462 (ji7)) 3 x4_3 (rd y462 (ji10)) 2).bind fun t478 => (if t478 = true then (lockgatelaw14_ValueKnown.l2 k3 y462 x2_1 x3_2 (wrap64 (x4_3 + 1))) else (some false))) else (some false))) else (some false))) else (some false))) else (some false))) else (some false))) else (some false))) else (some false))) else (none)) else (none)) = some r := by first | (rw [hji10] at H; exact H) | (simp only [hji10] at H ⊢; exact H)
             by_cases c11 : 0 ≤ (ji10)
             ·rw [if_pos c11] at H
              have c11b0 : decide (0 ≤ (ji10)) = true := decide_eq_true c11
              clear c11
              by_cases c12 : (ji10) < (y462.length : Int)
              ·rw [if_pos c12] at H
               have c12b0 : decide ((ji10) < (y462.length : Int)) = true := decide_eq_true c12
               clear c12
               replace H := Option.bind_eq_some_iff.mp H
               obtain ⟨t471, A130, H⟩ := H
               replace H : (if t471 = true then ((lockgatelaw14_ValueMakes.f k3 x2_1 false x3_2 (rd y462 (ji7)) 3 x4_3 (rd y462 (ji10)) 2).bind fun t472 => (if t472 = true then ((lockgatelaw14_ValueCompares.f k3 x2_1 true x3_2 (rd y462 (ji7)) 3 x4_3 (rd y462 (ji10)) 2 14).bind fun t473 => (if t473 = true then ((lockgatelaw14_ValueCompares.f k3 x2_1 false x3_2 (rd y462 (ji7)) 3 x4_3 (rd y462 (ji10)) 2 14).bind fun t474 => (if t474 = true then ((lockgatelaw14_ValueCompares.f k3 x2_1 true x3_2 (rd y462 (ji7)) 3 x4_3 0 1 14).bind fun t475 => (if t475 = true then ((lockgatelaw14_ValueCompares.f k3 x2_1 true x4_3 0 1 x3_2 (rd y462 (ji7)) 3 14).bind fun t476 => (if t476 = true then ((lockgatelaw14_ValuePointers.f k3 x2_1 true x3_2 (rd y462 (ji7)) 3 x4_3 (rd y462 (ji10)) 2).bind fun t477 => (if t477 = true then ((lockgatelaw14_ValuePointers.f k3 x2_1 false x3_2 (rd y462 (ji7)) 3 x4_3 (rd y462 (ji10)) 2).bind fun t478 => (if t478 = true then (lockgatelaw14_ValueKnown.l2 k3 y462 x2_1 x3_2 (wrap64 (x4_3 + 1))) else (some false))) else (some false))) else (some false))) else (some false))) else (some false))) else (some false))) else (some false))) else (some false)) = some r := H
               have A13 := Aside0.mk A130
               clear A130
               by_cases c14 : t471 = true
               ·subst c14
                have H1 : ((lockgatelaw14_ValueMakes.f k3 x2_1 false x3_2 (rd y462 (ji7)) 3 x4_3 (rd y462 (ji10)) 2).bind fun t472 => (if t472 = true then ((lockgatelaw14_ValueCompares.f k3 x2_1 true x3_2 (rd y462 (ji7)) 3 x4_3 (rd y462 (ji10)) 2 14).bind fun t473 => (if t473 = true then ((lockgatelaw14_ValueCompares.f k3 x2_1 false x3_2 (rd y462 (ji7)) 3 x4_3 (rd y462 (ji10)) 2 14).bind fun t474 => (if t474 = true then ((lockgatelaw14_ValueCompares.f k3 x2_1 true x3_2 (rd y462 (ji7)) 3 x4_3 0 1 14).bind fun t475 => (if t475 = true then ((lockgatelaw14_ValueCompares.f k3 x2_1 true x4_3 0 1 x3_2 (rd y462 (ji7)) 3 14).bind fun t476 => (if t476 = true then ((lockgatelaw14_ValuePointers.f k3 x2_1 true x3_2 (rd y462 (ji7)) 3 x4_3 (rd y462 (ji10)) 2).bind fun t477 => (if t477 = true then ((lockgatelaw14_ValuePointers.f k3 x2_1 false x3_2 (rd y462 (ji7)) 3 x4_3 (rd y462 (ji10)) 2).bind fun t478 => (if t478 = true then (lockgatelaw14_ValueKnown.l2 k3 y462 x2_1 x3_2 (wrap64 (x4_3 + 1))) else (some false))) else (some false))) else (some false))) else (some false))) else (some false))) else (some false))) else (some false))) = some r := by rw [if_pos rfl] at H; exact H
                clear H
                have H := H1
                clear H1
                replace H := Option.bind_eq_some_iff.mp H
                obtain ⟨t472, A150, H⟩ := H
                replace H : (if t472 = true then ((lockgatelaw14_ValueCompares.f k3 x2_1 true x3_2 (rd y462 (ji7)) 3 x4_3 (rd y462 (ji10)) 2 14).bind fun t473 => (if t473 = true then ((lockgatelaw14_ValueCompares.f k3 x2_1 false x3_2 (rd y462 (ji7)) 3 x4_3 (rd y462 (ji10)) 2 14).bind fun t474 => (if t474 = true then ((lockgatelaw14_ValueCompares.f k3 x2_1 true x3_2 (rd y462 (ji7)) 3 x4_3 0 1 14).bind fun t475 => (if t475 = true then ((lockgatelaw14_ValueCompares.f k3 x2_1 true x4_3 0 1 x3_2 (rd y462 (ji7)) 3 14).bind fun t476 => (if t476 = true then ((lockgatelaw14_ValuePointers.f k3 x2_1 true x3_2 (rd y462 (ji7)) 3 x4_3 (rd y462 (ji10)) 2).bind fun t477 => (if t477 = true then ((lockgatelaw14_ValuePointers.f k3 x2_1 false x3_2 (rd y462 (ji7)) 3 x4_3 (rd y462 (ji10)) 2).bind fun t478 => (if t478 = true then (lockgatelaw14_ValueKnown.l2 k3 y462 x2_1 x3_2 (wrap64 (x4_3 + 1))) else (some false))) else (some false))) else (some false))) else (some false))) else (some false))) else (some false))) else (some false)) = some r := H
                have A15 := Aside0.mk A150
                clear A150
                by_cases c16 : t472 = true
                ·subst c16
                 have H1 : ((lockgatelaw14_ValueCompares.f k3 x2_1 true x3_2 (rd y462 (ji7)) 3 x4_3 (rd y462 (ji10)) 2 14).bind fun t473 => (if t473 = true then ((lockgatelaw14_ValueCompares.f k3 x2_1 false x3_2 (rd y462 (ji7)) 3 x4_3 (rd y462 (ji10)) 2 14).bind fun t474 => (if t474 = true then ((lockgatelaw14_ValueCompares.f k3 x2_1 true x3_2 (rd y462 (ji7)) 3 x4_3 0 1 14).bind fun t475 => (if t475 = true then ((lockgatelaw14_ValueCompares.f k3 x2_1 true x4_3 0 1 x3_2 (rd y462 (ji7)) 3 14).bind fun t476 => (if t476 = true then ((lockgatelaw14_ValuePointers.f k3 x2_1 true x3_2 (rd y462 (ji7)) 3 x4_3 (rd y462 (ji10)) 2).bind fun t477 => (if t477 = true then ((lockgatelaw14_ValuePointers.f k3 x2_1 false x3_2 (rd y462 (ji7)) 3 x4_3 (rd y462 (ji10)) 2).bind fun t478 => (if t478 = true then (lockgatelaw14_ValueKnown.l2 k3 y462 x2_1 x3_2 (wrap64 (x4_3 + 1))) else (some false))) else (some false))) else (some false))) else (some false))) else (some false))) else (some false))) = some r := by rw [if_pos rfl] at H; exact H
                 clear H
                 have H := H1
                 clear H1
                 replace H := Option.bind_eq_some_iff.mp H
                 obtain ⟨t473, A170, H⟩ := H
                 replace H : (if t473 = true then ((lockgatelaw14_ValueCompares.f k3 x2_1 false x3_2 (rd y462 (ji7)) 3 x4_3 (rd y462 (ji10)) 2 14).bind fun t474 => (if t474 = true then ((lockgatelaw14_ValueCompares.f k3 x2_1 true x3_2 (rd y462 (ji7)) 3 x4_3 0 1 14).bind fun t475 => (if t475 = true then ((lockgatelaw14_ValueCompares.f k3 x2_1 true x4_3 0 1 x3_2 (rd y462 (ji7)) 3 14).bind fun t476 => (if t476 = true then ((lockgatelaw14_ValuePointers.f k3 x2_1 true x3_2 (rd y462 (ji7)) 3 x4_3 (rd y462 (ji10)) 2).bind fun t477 => (if t477 = true then ((lockgatelaw14_ValuePointers.f k3 x2_1 false x3_2 (rd y462 (ji7)) 3 x4_3 (rd y462 (ji10)) 2).bind fun t478 => (if t478 = true then (lockgatelaw14_ValueKnown.l2 k3 y462 x2_1 x3_2 (wrap64 (x4_3 + 1))) else (some false))) else (some false))) else (some false))) else (some false))) else (some false))) else (some false)) = some r := H
                 have A17 := Aside0.mk A170
                 clear A170
                 by_cases c18 : t473 = true
                 ·subst c18
                  have H1 : ((lockgatelaw14_ValueCompares.f k3 x2_1 false x3_2 (rd y462 (ji7)) 3 x4_3 (rd y462 (ji10)) 2 14).bind fun t474 => (if t474 = true then ((lockgatelaw14_ValueCompares.f k3 x2_1 true x3_2 (rd y462 (ji7)) 3 x4_3 0 1 14).bind fun t475 => (if t475 = true then ((lockgatelaw14_ValueCompares.f k3 x2_1 true x4_3 0 1 x3_2 (rd y462 (ji7)) 3 14).bind fun t476 => (if t476 = true then ((lockgatelaw14_ValuePointers.f k3 x2_1 true x3_2 (rd y462 (ji7)) 3 x4_3 (rd y462 (ji10)) 2).bind fun t477 => (if t477 = true then ((lockgatelaw14_ValuePointers.f k3 x2_1 false x3_2 (rd y462 (ji7)) 3 x4_3 (rd y462 (ji10)) 2).bind fun t478 => (if t478 = true then (lockgatelaw14_ValueKnown.l2 k3 y462 x2_1 x3_2 (wrap64 (x4_3 + 1))) else (some false))) else (some false))) else (some false))) else (some false))) else (some false))) = some r := by rw [if_pos rfl] at H; exact H
                  clear H
                  have H := H1
                  clear H1
                  replace H := Option.bind_eq_some_iff.mp H
                  obtain ⟨t474, A190, H⟩ := H
                  replace H : (if t474 = true then ((lockgatelaw14_ValueCompares.f k3 x2_1 true x3_2 (rd y462 (ji7)) 3 x4_3 0 1 14).bind fun t475 => (if t475 = true then ((lockgatelaw14_ValueCompares.f k3 x2_1 true x4_3 0 1 x3_2 (rd y462 (ji7)) 3 14).bind fun t476 => (if t476 = true then ((lockgatelaw14_ValuePointers.f k3 x2_1 true x3_2 (rd y462 (ji7)) 3 x4_3 (rd y462 (ji10)) 2).bind fun t477 => (if t477 = true then ((lockgatelaw14_ValuePointers.f k3 x2_1 false x3_2 (rd y462 (ji7)) 3 x4_3 (rd y462 (ji10)) 2).bind fun t478 => (if t478 = true then (lockgatelaw14_ValueKnown.l2 k3 y462 x2_1 x3_2 (wrap64 (x4_3 + 1))) else (some false))) else (some false))) else (some false))) else (some false))) else (some false)) = some r := H
                  have A19 := Aside0.mk A190
                  clear A190
                  by_cases c20 : t474 = true
                  ·subst c20
                   have H1 : ((lockgatelaw14_ValueCompares.f k3 x2_1 true x3_2 (rd y462 (ji7)) 3 x4_3 0 1 14).bind fun t475 => (if t475 = true then ((lockgatelaw14_ValueCompares.f k3 x2_1 true x4_3 0 1 x3_2 (rd y462 (ji7)) 3 14).bind fun t476 => (if t476 = true then ((lockgatelaw14_ValuePointers.f k3 x2_1 true x3_2 (rd y462 (ji7)) 3 x4_3 (rd y462 (ji10)) 2).bind fun t477 => (if t477 = true then ((lockgatelaw14_ValuePointers.f k3 x2_1 false x3_2 (rd y462 (ji7)) 3 x4_3 (rd y462 (ji10)) 2).bind fun t478 => (if t478 = true then (lockgatelaw14_ValueKnown.l2 k3 y462 x2_1 x3_2 (wrap64 (x4_3 + 1))) else (some false))) else (some false))) else (some false))) else (some false))) = some r := by rw [if_pos rfl] at H; exact H
                   clear H
                   have H := H1
                   clear H1
                   replace H := Option.bind_eq_some_iff.mp H
                   obtain ⟨t475, A210, H⟩ := H
                   replace H : (if t475 = true then ((lockgatelaw14_ValueCompares.f k3 x2_1 true x4_3 0 1 x3_2 (rd y462 (ji7)) 3 14).bind fun t476 => (if t476 = true then ((lockgatelaw14_ValuePointers.f k3 x2_1 true x3_2 (rd y462 (ji7)) 3 x4_3 (rd y462 (ji10)) 2).bind fun t477 => (if t477 = true then ((lockgatelaw14_ValuePointers.f k3 x2_1 false x3_2 (rd y462 (ji7)) 3 x4_3 (rd y462 (ji10)) 2).bind fun t478 => (if t478 = true then (lockgatelaw14_ValueKnown.l2 k3 y462 x2_1 x3_2 (wrap64 (x4_3 + 1))) else (some false))) else (some false))) else (some false))) else (some false)) = some r := H
                   have A21 := Aside0.mk A210
                   clear A210
                   by_cases c22 : t475 = true
                   ·subst c22
                    have H1 : ((lockgatelaw14_ValueCompares.f k3 x2_1 true x4_3 0 1 x3_2 (rd y462 (ji7)) 3 14).bind fun t476 => (if t476 = true then ((lockgatelaw14_ValuePointers.f k3 x2_1 true x3_2 (rd y462 (ji7)) 3 x4_3 (rd y462 (ji10)) 2).bind fun t477 => (if t477 = true then ((lockgatelaw14_ValuePointers.f k3 x2_1 false x3_2 (rd y462 (ji7)) 3 x4_3 (rd y462 (ji10)) 2).bind fun t478 => (if t478 = true then (lockgatelaw14_ValueKnown.l2 k3 y462 x2_1 x3_2 (wrap64 (x4_3 + 1))) else (some false))) else (some false))) else (some false))) = some r := by rw [if_pos rfl] at H; exact H
                    clear H
                    have H := H1
                    clear H1
                    replace H := Option.bind_eq_some_iff.mp H
                    obtain ⟨t476, A230, H⟩ := H
                    replace H : (if t476 = true then ((lockgatelaw14_ValuePointers.f k3 x2_1 true x3_2 (rd y462 (ji7)) 3 x4_3 (rd y462 (ji10)) 2).bind fun t477 => (if t477 = true then ((lockgatelaw14_ValuePointers.f k3 x2_1 false x3_2 (rd y462 (ji7)) 3 x4_3 (rd y462 (ji10)) 2).bind fun t478 => (if t478 = true then (lockgatelaw14_ValueKnown.l2 k3 y462 x2_1 x3_2 (wrap64 (x4_3 + 1))) else (some false))) else (some false))) else (some false)) = some r := H
                    have A23 := Aside0.mk A230
                    clear A230
                    by_cases c24 : t476 = true
                    ·subst c24
                     have H1 : ((lockgatelaw14_ValuePointers.f k3 x2_1 true x3_2 (rd y462 (ji7)) 3 x4_3 (rd y462 (ji10)) 2).bind fun t477 => (if t477 = true then ((lockgatelaw14_ValuePointers.f k3 x2_1 false x3_2 (rd y462 (ji7)) 3 x4_3 (rd y462 (ji10)) 2).bind fun t478 => (if t478 = true then (lockgatelaw14_ValueKnown.l2 k3 y462 x2_1 x3_2 (wrap64 (x4_3 + 1))) else (some false))) else (some false))) = some r := by rw [if_pos rfl] at H; exact H
                     clear H
                     have H := H1
                     clear H1
                     replace H := Option.bind_eq_some_iff.mp H
                     obtain ⟨t477, A250, H⟩ := H
                     replace H : (if t477 = true then ((lockgatelaw14_ValuePointers.f k3 x2_1 false x3_2 (rd y462 (ji7)) 3 x4_3 (rd y462 (ji10)) 2).bind fun t478 => (if t478 = true then (lockgatelaw14_ValueKnown.l2 k3 y462 x2_1 x3_2 (wrap64 (x4_3 + 1))) else (some false))) else (some false)) = some r := H
                     have A25 := Aside0.mk A250
                     clear A250
                     by_cases c26 : t477 = true
                     ·subst c26
                      have H1 : ((lockgatelaw14_ValuePointers.f k3 x2_1 false x3_2 (rd y462 (ji7)) 3 x4_3 (rd y462 (ji10)) 2).bind fun t478 => (if t478 = true then (lockgatelaw14_ValueKnown.l2 k3 y462 x2_1 x3_2 (wrap64 (x4_3 + 1))) else (some false))) = some r := by rw [if_pos rfl] at H; exact H
                      clear H
                      have H := H1
                      clear H1
                      replace H := Option.bind_eq_some_iff.mp H
                      obtain ⟨t478, A270, H⟩ := H
                      replace H : (if t478 = true then (lockgatelaw14_ValueKnown.l2 k3 y462 x2_1 x3_2 (wrap64 (x4_3 + 1))) else (some false)) = some r := H
                      have A27 := Aside0.mk A270
                      clear A270
                      by_cases c28 : t478 = true
                      ·subst c28
                       have H1 : (lockgatelaw14_ValueKnown.l2 k3 y462 x2_1 x3_2 (wrap64 (x4_3 + 1))) = some r := by rw [if_pos rfl] at H; exact H
                       clear H
                       have H := H1
                       clear H1
                       have H' := Aside0.mk H
                       clear H
                       obtain ⟨Ao29, co29, eo29⟩ := Kd.R_slice HO_1.out
                       subst eo29
                       have p466 : 0 ≤ ((ji7) : Int) := of_decide_eq_true (by first | (with_reducible assumption) | assumption)
                       have q466 : (ji7) < (y462.length : Int) := of_decide_eq_true (by first | (with_reducible assumption) | assumption)
                       obtain ⟨ad466, e466, hx466_0⟩ := Kd.at_int (Kd.R_reads' HO_1.out).2.2 (ji7) p466 q466
                       cases e466
                       replace p466 := eq_true p466
                       replace q466 := eq_true q466
                       go_wp2_with (first | ((with_reducible refine gate_dst (N := 5) rfl ?_); (try (refine gate_guard (by rfl) ?_; dsimp only)); refine bx_ 5 #[.int .i64 0, .int .u64 0, .int .i64 0] 24 ?_; intro gb467 hg w30 BK467 hb; have GW467 := bg_ hg; have GE467 := GW467; replace HO_1 := Aside0.mk (Kd.R_below (by (with_reducible repeat (first | apply Kd.R_alloc | apply Kd.R_drewN | apply Kd.R_drew)); exact HO_1.out) hb); replace HB := bl_ hb; clear hb hg; obtain ⟨zc31_0, zc31_1, zc31_2, zf31_0, zf31_1, zf31_2⟩ := k3_ BK467; have p468 : 0 ≤ ((ji10) : Int) := of_decide_eq_true (by first | (with_reducible assumption) | assumption); have q468 : (ji10) < (y462.length : Int) := of_decide_eq_true (by first | (with_reducible assumption) | assumption); obtain ⟨ad468, e468, hx468_0⟩ := Kd.at_int (Kd.R_reads' HO_1.out).2.2 (ji10) p468 q468; obtain rfl : ad466 = ad468 := (by injection e468); have hn468_0 : ad466.block ≠ gb467 := Kd.own_blk (Kd.R_ne HO_1.out BK467.out (by decide)); have hn468_1 : ad466.block ≠ gb467 := Kd.own_blk (Kd.R_ne HO_1.out BK467.out (by decide)); have hn468_2 : ad466.block ≠ gb467 := Kd.own_blk (Kd.R_ne HO_1.out BK467.out (by decide)); replace hx468_0 := (cell_far (p := ⟨gb467, 0, none⟩) (by first | (rw [add_block]; exact hn468_0) | (show (Addr.add _ _).block ≠ _; rw [add_block]; exact hn468_0) | exact hn468_0) (.int .i64 x3_2)).trans hx468_0; replace hx468_0 := (cell_far (p := ⟨gb467, 1, none⟩) (by first | (rw [add_block]; exact hn468_1) | (show (Addr.add _ _).block ≠ _; rw [add_block]; exact hn468_1) | exact hn468_1) (.int .u64 (rd y462 (ji7)))).trans hx468_0; replace hx468_0 := (cell_far (p := ⟨gb467, 2, none⟩) (by first | (rw [add_block]; exact hn468_2) | (show (Addr.add _ _).block ≠ _; rw [add_block]; exact hn468_2) | exact hn468_2) (.int .i64 3)).trans hx468_0; clear hn468_0; clear hn468_1; clear hn468_2; replace p468 := eq_true p468; replace q468 := eq_true q468) | ((with_reducible refine gate_dst (N := 6) rfl ?_); (try (refine gate_guard (by rfl) ?_; dsimp only)); refine box_event ?hg (N := 6) ?hd (cs := #[.int .i64 0, .int .u64 0, .int .i64 0]) (t := 24) ?hr ?_; (case hd => rfl); (case hg => rfl); (case hr => first | (go_simp; done) | (go_simp; rfl)); intro gb469 hg w32 hbox hb; have n0_ := Aside0.mk (Kd.R_below (by (with_reducible repeat (first | apply Kd.R_alloc | apply Kd.R_drewN | apply Kd.R_drew)); exact (Kd.R_mono (Kd.R_far (p := ⟨gb467, 2, none⟩) (Kd.R_far (p := ⟨gb467, 1, none⟩) (Kd.R_far (p := ⟨gb467, 0, none⟩) (Kd.R_types HO_1.out BK467.out (by decide)) (fun _ hk => hk.2) (.int .i64 x3_2)) (fun _ hk => hk.2) (.int .u64 (rd y462 (ji7)))) (fun _ hk => hk.2) (.int .i64 3)) (fun _ h_ => h_.1))) hb); have n1_ := Aside0.mk (blk_below (g := gb467) (o := .cells #[.int .i64 x3_2, .int .u64 (rd y462 (ji7)), .int .i64 3] 24 (0, 0)) (by (with_reducible repeat (first | apply bN_ | apply bD_ | apply bA_)); refine blk_put (cs := #[.int .i64 x3_2, .int .u64 (rd y462 (ji7)), .int .i64 0]) ?_ 2 _ rfl; (with_reducible repeat (first | apply bN_ | apply bD_ | apply bA_)); refine blk_put (cs := #[.int .i64 x3_2, .int .u64 0, .int .i64 0]) ?_ 1 _ rfl; (with_reducible repeat (first | apply bN_ | apply bD_ | apply bA_)); refine blk_put (cs := #[.int .i64 0, .int .u64 0, .int .i64 0]) ?_ 0 _ rfl; exact bk_) hb); have n2_ := bl_ hb; have n3_ := Aside0.mk (hbox); have n4_ := bg_ hg; have n5_ := bg_ hg; have n6_ := Aside0.mk ((by rw [hg]; exact Nat.ne_of_lt (blk_lt (g := gb467) (o := .cells #[.int .i64 x3_2, .int .u64 (rd y462 (ji7)), .int .i64 3] 24 (0, 0)) (by (with_reducible repeat (first | apply bN_ | apply bD_ | apply bA_)); refine blk_put (cs := #[.int .i64 x3_2, .int .u64 (rd y462 (ji7)), .int .i64 0]) ?_ 2 _ rfl; (with_reducible repeat (first | apply bN_ | apply bD_ | apply bA_)); refine blk_put (cs := #[.int .i64 x3_2, .int .u64 0, .int .i64 0]) ?_ 1 _ rfl; (with_reducible repeat (first | apply bN_ | apply bD_ | apply bA_)); refine blk_put (cs := #[.int .i64 0, .int .u64 0, .int .i64 0]) ?_ 0 _ rfl; exact bk_)) : gb467 ≠ gb469)); have n7_ := Aside0.mk ((by rw [hg]; exact Nat.ne_of_gt (blk_lt (g := gb467) (o := .cells #[.int .i64 x3_2, .int .u64 (rd y462 (ji7)), .int .i64 3] 24 (0, 0)) (by (with_reducible repeat (first | apply bN_ | apply bD_ | apply bA_)); refine blk_put (cs := #[.int .i64 x3_2, .int .u64 (rd y462 (ji7)), .int .i64 0]) ?_ 2 _ rfl; (with_reducible repeat (first | apply bN_ | apply bD_ | apply bA_)); refine blk_put (cs := #[.int .i64 x3_2, .int .u64 0, .int .i64 0]) ?_ 1 _ rfl; (with_reducible repeat (first | apply bN_ | apply bD_ | apply bA_)); refine blk_put (cs := #[.int .i64 0, .int .u64 0, .int .i64 0]) ?_ 0 _ rfl; exact bk_)) : gb469 ≠ gb467)); clear HO_1; clear BK467; clear HB; have HO_1 := n0_; have BK467 := n1_; have HB := n2_; have BK469 := n3_; have GW469 := n4_; have GE469 := n5_; have NB467_469 := n6_; have NB469_467 := n7_; clear n0_ n1_ n2_ n3_ n4_ n5_ n6_ n7_; clear hb hbox hg; have hnb33 := NB469_467.out; have hnc33 := NB467_469.out; obtain ⟨zc34_0, zc34_1, zc34_2, zf34_0, zf34_1, zf34_2⟩ := k3_ BK469) | ((with_reducible refine gate_dst (N := 7) rfl ?_); (try (refine gate_guard (by rfl) ?_; dsimp only)); refine box_event ?hg (N := 7) ?hd (cs := #[.int .i64 0, .int .u64 0, .int .i64 0]) (t := 24) ?hr ?_; (case hd => rfl); (case hg => rfl); (case hr => first | (go_simp; done) | (go_simp; rfl)); intro gb470 hg w35 hbox hb; have n0_ := Aside0.mk (Kd.R_below (by (with_reducible repeat (first | apply Kd.R_alloc | apply Kd.R_drewN | apply Kd.R_drew)); exact (Kd.R_mono (Kd.R_far (p := ⟨gb469, 2, none⟩) (Kd.R_far (p := ⟨gb469, 1, none⟩) (Kd.R_far (p := ⟨gb469, 0, none⟩) (Kd.R_types HO_1.out BK469.out (by decide)) (fun _ hk => hk.2) (.int .i64 x4_3)) (fun _ hk => hk.2) (.int .u64 (rd y462 (ji10)))) (fun _ hk => hk.2) (.int .i64 2)) (fun _ h_ => h_.1))) hb); have n1_ := Aside0.mk (blk_below (g := gb467) (o := .cells #[.int .i64 x3_2, .int .u64 (rd y462 (ji7)), .int .i64 3] 24 (0, 0)) (by (with_reducible repeat (first | apply bN_ | apply bD_ | apply bA_)); refine blk_far ?_ NB467_469.out _; (with_reducible repeat (first | apply bN_ | apply bD_ | apply bA_)); refine blk_far ?_ NB467_469.out _; (with_reducible repeat (first | apply bN_ | apply bD_ | apply bA_)); refine blk_far ?_ NB467_469.out _; exact bk_) hb); have n2_ := Aside0.mk (blk_below (g := gb469) (o := .cells #[.int .i64 x4_3, .int .u64 (rd y462 (ji10)), .int .i64 2] 24 (0, 0)) (by (with_reducible repeat (first | apply bN_ | apply bD_ | apply bA_)); refine blk_put (cs := #[.int .i64 x4_3, .int .u64 (rd y462 (ji10)), .int .i64 0]) ?_ 2 _ rfl; (with_reducible repeat (first | apply bN_ | apply bD_ | apply bA_)); refine blk_put (cs := #[.int .i64 x4_3, .int .u64 0, .int .i64 0]) ?_ 1 _ rfl; (with_reducible repeat (first | apply bN_ | apply bD_ | apply bA_)); refine blk_put (cs := #[.int .i64 0, .int .u64 0, .int .i64 0]) ?_ 0 _ rfl; exact bk_) hb); have n3_ := bl_ hb; have n4_ := Aside0.mk (hbox); have n5_ := bg_ hg; have n6_ := bg_ hg; have n7_ := Aside0.mk ((by rw [hg]; exact Nat.ne_of_lt (blk_lt (g := gb467) (o := .cells #[.int .i64 x3_2, .int .u64 (rd y462 (ji7)), .int .i64 3] 24 (0, 0)) (by (with_reducible repeat (first | apply bN_ | apply bD_ | apply bA_)); refine blk_far ?_ NB467_469.out _; (with_reducible repeat (first | apply bN_ | apply bD_ | apply bA_)); refine blk_far ?_ NB467_469.out _; (with_reducible repeat (first | apply bN_ | apply bD_ | apply bA_)); refine blk_far ?_ NB467_469.out _; exact bk_)) : gb467 ≠ gb470)); have n8_ := Aside0.mk ((by rw [hg]; exact Nat.ne_of_gt (blk_lt (g := gb467) (o := .cells #[.int .i64 x3_2, .int .u64 (rd y462 (ji7)), .int .i64 3] 24 (0, 0)) (by (with_reducible repeat (first | apply bN_ | apply bD_ | apply bA_)); refine blk_far ?_ NB467_469.out _; (with_reducible repeat (first | apply bN_ | apply bD_ | apply bA_)); refine blk_far ?_ NB467_469.out _; (with_reducible repeat (first | apply bN_ | apply bD_ | apply bA_)); refine blk_far ?_ NB467_469.out _; exact bk_)) : gb470 ≠ gb467)); have n9_ := Aside0.mk ((by rw [hg]; exact Nat.ne_of_lt (blk_lt (g := gb469) (o := .cells #[.int .i64 x4_3, .int .u64 (rd y462 (ji10)), .int .i64 2] 24 (0, 0)) (by (with_reducible repeat (first | apply bN_ | apply bD_ | apply bA_)); refine blk_put (cs := #[.int .i64 x4_3, .int .u64 (rd y462 (ji10)), .int .i64 0]) ?_ 2 _ rfl; (with_reducible repeat (first | apply bN_ | apply bD_ | apply bA_)); refine blk_put (cs := #[.int .i64 x4_3, .int .u64 0, .int .i64 0]) ?_ 1 _ rfl; (with_reducible repeat (first | apply bN_ | apply bD_ | apply bA_)); refine blk_put (cs := #[.int .i64 0, .int .u64 0, .int .i64 0]) ?_ 0 _ rfl; exact bk_)) : gb469 ≠ gb470)); have n10_ := Aside0.mk ((by rw [hg]; exact Nat.ne_of_gt (blk_lt (g := gb469) (o := .cells #[.int .i64 x4_3, .int .u64 (rd y462 (ji10)), .int .i64 2] 24 (0, 0)) (by (with_reducible repeat (first | apply bN_ | apply bD_ | apply bA_)); refine blk_put (cs := #[.int .i64 x4_3, .int .u64 (rd y462 (ji10)), .int .i64 0]) ?_ 2 _ rfl; (with_reducible repeat (first | apply bN_ | apply bD_ | apply bA_)); refine blk_put (cs := #[.int .i64 x4_3, .int .u64 0, .int .i64 0]) ?_ 1 _ rfl; (with_reducible repeat (first | apply bN_ | apply bD_ | apply bA_)); refine blk_put (cs := #[.int .i64 0, .int .u64 0, .int .i64 0]) ?_ 0 _ rfl; exact bk_)) : gb470 ≠ gb469)); clear HO_1; clear BK467; clear BK469; clear HB; have HO_1 := n0_; have BK467 := n1_; have BK469 := n2_; have HB := n3_; have BK470 := n4_; have GW470 := n5_; have GE470 := n6_; have NB467_470 := n7_; have NB470_467 := n8_; have NB469_470 := n9_; have NB470_469 := n10_; clear n0_ n1_ n2_ n3_ n4_ n5_ n6_ n7_ n8_ n9_ n10_; clear hb hbox hg; have hnb36 := NB470_467.out; have hnc36 := NB467_470.out; have hnb37 := NB470_469.out; have hnc37 := NB469_470.out; obtain ⟨zc38_0, zc38_1, zc38_2, zf38_0, zf38_1, zf38_2⟩ := k3_ BK470; obtain ⟨zc39_0, zc39_1, zc39_2, zf39_0, zf39_1, zf39_2⟩ := k3_ BK467; obtain ⟨zc40_0, zc40_1, zc40_2, zf40_0, zf40_1, zf40_2⟩ := k3_ BK469) | ((with_reducible refine gate_callee (f := 3) rfl ?_); refine goesL_ (some 51) rfl rfl Try.func3 (by kernel_rfl) rfl #[.int .i64 x2_1, .bool true, .agg #[.int .i64 x3_2, .int .u64 (rd y462 (ji7)), .int .i64 3], .agg #[.int .i64 x4_3, .int .u64 (rd y462 (ji10)), .int .i64 2]] rfl (by (try simp only [List.map_toArray, List.map_cons, List.map_nil]); first | done | (simp only [hji10, hji7]; rfl) | rfl | (simp only [List.length_drop, List.length_take]; rfl)) ?_; (with_reducible refine (lockgatelaw14_ValueMakes.calls k3 x2_1 true x3_2 (rd y462 (ji7)) 3 x4_3 (rd y462 (ji10)) 2 true _ (.mk rfl) A13.out).mono ?_); rintro e w41 ⟨rfl, hb⟩; refine ⟨_, rfl, ?_⟩; have n0_ := Aside0.mk (Kd.R_below (by (with_reducible repeat (first | apply Kd.R_alloc | apply Kd.R_drewN | apply Kd.R_drew)); exact (Kd.R_mono (Kd.R_far (p := ⟨gb470, 2, none⟩) (Kd.R_far (p := ⟨gb470, 1, none⟩) (Kd.R_far (p := ⟨gb470, 0, none⟩) (Kd.R_types HO_1.out BK470.out (by decide)) (fun _ hk => hk.2) (.int .i64 x4_3)) (fun _ hk => hk.2) (.int .u64 0)) (fun _ hk => hk.2) (.int .i64 1)) (fun _ h_ => h_.1))) hb); have n1_ := Aside0.mk (blk_below (g := gb467) (o := .cells #[.int .i64 x3_2, .int .u64 (rd y462 (ji7)), .int .i64 3] 24 (0, 0)) (by (with_reducible repeat (first | apply bN_ | apply bD_ | apply bA_)); refine blk_far ?_ NB467_470.out _; (with_reducible repeat (first | apply bN_ | apply bD_ | apply bA_)); refine blk_far ?_ NB467_470.out _; (with_reducible repeat (first | apply bN_ | apply bD_ | apply bA_)); refine blk_far ?_ NB467_470.out _; exact bk_) hb); have n2_ := Aside0.mk (blk_below (g := gb469) (o := .cells #[.int .i64 x4_3, .int .u64 (rd y462 (ji10)), .int .i64 2] 24 (0, 0)) (by (with_reducible repeat (first | apply bN_ | apply bD_ | apply bA_)); refine blk_far ?_ NB469_470.out _; (with_reducible repeat (first | apply bN_ | apply bD_ | apply bA_)); refine blk_far ?_ NB469_470.out _; (with_reducible repeat (first | apply bN_ | apply bD_ | apply bA_)); refine blk_far ?_ NB469_470.out _; exact bk_) hb); have n3_ := Aside0.mk (blk_below (g := gb470) (o := .cells #[.int .i64 x4_3, .int .u64 0, .int .i64 1] 24 (0, 0)) (by (with_reducible repeat (first | apply bN_ | apply bD_ | apply bA_)); refine blk_put (cs := #[.int .i64 x4_3, .int .u64 0, .int .i64 0]) ?_ 2 _ rfl; (with_reducible repeat (first | apply bN_ | apply bD_ | apply bA_)); refine blk_put (cs := #[.int .i64 x4_3, .int .u64 0, .int .i64 0]) ?_ 1 _ rfl; (with_reducible repeat (first | apply bN_ | apply bD_ | apply bA_)); refine blk_put (cs := #[.int .i64 0, .int .u64 0, .int .i64 0]) ?_ 0 _ rfl; exact bk_) hb); have n4_ := bl_ hb; clear HO_1; clear BK467; clear BK469; clear BK470; clear HB; have HO_1 := n0_; have BK467 := n1_; have BK469 := n2_; have BK470 := n3_; have HB := n4_; clear n0_ n1_ n2_ n3_ n4_; (try clear hb); (try clear hb2); (try clear hk); (try clear hi); obtain ⟨zc42_0, zc42_1, zc42_2, zf42_0, zf42_1, zf42_2⟩ := k3_ BK467; obtain ⟨zc43_0, zc43_1, zc43_2, zf43_0, zf43_1, zf43_2⟩ := k3_ BK469) | (go_at_call 3; (with_reducible refine (lockgatelaw14_ValueMakes.calls k3 x2_1 false x3_2 (rd y462 (ji7)) 3 x4_3 (rd y462 (ji10)) 2 true _ (.mk rfl) A15.out).mono ?_); rintro e w44 ⟨rfl, hb⟩; replace HO_1 := Aside0.mk (Kd.R_below (by (with_reducible repeat (first | apply Kd.R_alloc | apply Kd.R_drewN | apply Kd.R_drew)); exact HO_1.out) hb); replace BK467 := bb_ hb BK467; replace BK469 := bb_ hb BK469; replace BK470 := bb_ hb BK470; replace HB := bl_ hb; (try clear hb); (try clear hb2); (try clear hk); (try clear hi); obtain ⟨zc45_0, zc45_1, zc45_2, zf45_0, zf45_1, zf45_2⟩ := k3_ BK467; obtain ⟨zc46_0, zc46_1, zc46_2, zf46_0, zf46_1, zf46_2⟩ := k3_ BK469) | (go_at_call 4; (with_reducible refine (lockgatelaw14_ValueCompares.calls k3 x2_1 true x3_2 (rd y462 (ji7)) 3 x4_3 (rd y462 (ji10)) 2 14 true _ (.mk rfl) A17.out).mono ?_); rintro e w47 ⟨rfl, hb⟩; replace HO_1 := Aside0.mk (Kd.R_below (by (with_reducible repeat (first | apply Kd.R_alloc | apply Kd.R_drewN | apply Kd.R_drew)); exact HO_1.out) hb); replace BK467 := bb_ hb BK467; replace BK469 := bb_ hb BK469; replace BK470 := bb_ hb BK470; replace HB := bl_ hb; (try clear hb); (try clear hb2); (try clear hk); (try clear hi); obtain ⟨zc48_0, zc48_1, zc48_2, zf48_0, zf48_1, zf48_2⟩ := k3_ BK467; obtain ⟨zc49_0, zc49_1, zc49_2, zf49_0, zf49_1, zf49_2⟩ := k3_ BK469) | (go_at_call 4; (with_reducible refine (lockgatelaw14_ValueCompares.calls k3 x2_1 false x3_2 (rd y462 (ji7)) 3 x4_3 (rd y462 (ji10)) 2 14 true _ (.mk rfl) A19.out).mono ?_); rintro e w50 ⟨rfl, hb⟩; replace HO_1 := Aside0.mk (Kd.R_below (by (with_reducible repeat (first | apply Kd.R_alloc | apply Kd.R_drewN | apply Kd.R_drew)); exact HO_1.out) hb); replace BK467 := bb_ hb BK467; replace BK469 := bb_ hb BK469; replace BK470 := bb_ hb BK470; replace HB := bl_ hb; (try clear hb); (try clear hb2); (try clear hk); (try clear hi); obtain ⟨zc51_0, zc51_1, zc51_2, zf51_0, zf51_1, zf51_2⟩ := k3_ BK467; obtain ⟨zc52_0, zc52_1, zc52_2, zf52_0, zf52_1, zf52_2⟩ := k3_ BK470) | (go_at_call 4; (with_reducible refine (lockgatelaw14_ValueCompares.calls k3 x2_1 true x3_2 (rd y462 (ji7)) 3 x4_3 0 1 14 true _ (.mk rfl) A21.out).mono ?_); rintro e w53 ⟨rfl, hb⟩; replace HO_1 := Aside0.mk (Kd.R_below (by (with_reducible repeat (first | apply Kd.R_alloc | apply Kd.R_drewN | apply Kd.R_drew)); exact HO_1.out) hb); replace BK467 := bb_ hb BK467; replace BK469 := bb_ hb BK469; replace BK470 := bb_ hb BK470; replace HB := bl_ hb; (try clear hb); (try clear hb2); (try clear hk); (try clear hi); obtain ⟨zc54_0, zc54_1, zc54_2, zf54_0, zf54_1, zf54_2⟩ := k3_ BK470; obtain ⟨zc55_0, zc55_1, zc55_2, zf55_0, zf55_1, zf55_2⟩ := k3_ BK467) | (go_at_call 4; (with_reducible refine (lockgatelaw14_ValueCompares.calls k3 x2_1 true x4_3 0 1 x3_2 (rd y462 (ji7)) 3 14 true _ (.mk rfl) A23.out).mono ?_); rintro e w56 ⟨rfl, hb⟩; replace HO_1 := Aside0.mk (Kd.R_below (by (with_reducible repeat (first | apply Kd.R_alloc | apply Kd.R_drewN | apply Kd.R_drew)); exact HO_1.out) hb); replace BK467 := bb_ hb BK467; replace BK469 := bb_ hb BK469; replace BK470 := bb_ hb BK470; replace HB := bl_ hb; (try clear hb); (try clear hb2); (try clear hk); (try clear hi); obtain ⟨zc57_0, zc57_1, zc57_2, zf57_0, zf57_1, zf57_2⟩ := k3_ BK467; obtain ⟨zc58_0, zc58_1, zc58_2, zf58_0, zf58_1, zf58_2⟩ := k3_ BK469) | (go_at_call 5; (with_reducible refine (lockgatelaw14_ValuePointers.calls k3 x2_1 true x3_2 (rd y462 (ji7)) 3 x4_3 (rd y462 (ji10)) 2 true _ (.mk rfl) A25.out).mono ?_); rintro e w59 ⟨rfl, hb⟩; replace HO_1 := Aside0.mk (Kd.R_below (by (with_reducible repeat (first | apply Kd.R_alloc | apply Kd.R_drewN | apply Kd.R_drew)); exact HO_1.out) hb); replace BK467 := bb_ hb BK467; replace BK469 := bb_ hb BK469; replace BK470 := bb_ hb BK470; replace HB := bl_ hb; (try clear hb); (try clear hb2); (try clear hk); (try clear hi); obtain ⟨zc60_0, zc60_1, zc60_2, zf60_0, zf60_1, zf60_2⟩ := k3_ BK467; obtain ⟨zc61_0, zc61_1, zc61_2, zf61_0, zf61_1, zf61_2⟩ := k3_ BK469) | (go_at_call 5; (with_reducible refine (lockgatelaw14_ValuePointers.calls k3 x2_1 false x3_2 (rd y462 (ji7)) 3 x4_3 (rd y462 (ji10)) 2 true _ (.mk rfl) A27.out).mono ?_); rintro e w62 ⟨rfl, hb⟩; replace HO_1 := Aside0.mk (Kd.R_below (by (with_reducible repeat (first | apply Kd.R_alloc | apply Kd.R_drewN | apply Kd.R_drew)); exact HO_1.out) hb); replace BK467 := bb_ hb BK467; replace BK469 := bb_ hb BK469; replace BK470 := bb_ hb BK470; replace HB := bl_ hb; (try clear hb); (try clear hb2); (try clear hk); (try clear hi)))
                       go_roundg k3
                       case measure => have := HK1.out; have := HK2.out; have := HK3.out; omega
                       case rel => exact ⟨(wrap64 (x4_3 + 1)), (by first | rfl | (simp; done) | (simp [*]; done)), H', ⟨by have := HK1.out; have := HK2.out; have := HK3.out; omega⟩, ⟨by (with_reducible repeat (first | apply Kd.R_alloc | apply Kd.R_drewN | apply Kd.R_drew)); exact HO_1.out⟩, ⟨bz_⟩⟩
                      ·replace c28 := Bool.eq_false_iff.mpr c28
                       subst c28
                       have H1 : (some false) = some r := by rw [if_neg (show ¬ (false = true) by decide)] at H; exact H
                       clear H
                       have H := H1
                       clear H1
                       exact absurd ((Option.some.inj H).trans HRT.out) (by decide)
                     ·replace c26 := Bool.eq_false_iff.mpr c26
                      subst c26
                      have H1 : (some false) = some r := by rw [if_neg (show ¬ (false = true) by decide)] at H; exact H
                      clear H
                      have H := H1
                      clear H1
                      exact absurd ((Option.some.inj H).trans HRT.out) (by decide)
                    ·replace c24 := Bool.eq_false_iff.mpr c24
                     subst c24
                     have H1 : (some false) = some r := by rw [if_neg (show ¬ (false = true) by decide)] at H; exact H
                     clear H
                     have H := H1
                     clear H1
                     exact absurd ((Option.some.inj H).trans HRT.out) (by decide)
                   ·replace c22 := Bool.eq_false_iff.mpr c22
                    subst c22
                    have H1 : (some false) = some r := by rw [if_neg (show ¬ (false = true) by decide)] at H; exact H
                    clear H
                    have H := H1
                    clear H1
                    exact absurd ((Option.some.inj H).trans HRT.out) (by decide)
                  ·replace c20 := Bool.eq_false_iff.mpr c20
                   subst c20
                   have H1 : (some false) = some r := by rw [if_neg (show ¬ (false = true) by decide)] at H; exact H
                   clear H
                   have H := H1
                   clear H1
                   exact absurd ((Option.some.inj H).trans HRT.out) (by decide)
                 ·replace c18 := Bool.eq_false_iff.mpr c18
                  subst c18
                  have H1 : (some false) = some r := by rw [if_neg (show ¬ (false = true) by decide)] at H; exact H
                  clear H
                  have H := H1
                  clear H1
                  exact absurd ((Option.some.inj H).trans HRT.out) (by decide)
                ·replace c16 := Bool.eq_false_iff.mpr c16
                 subst c16
                 have H1 : (some false) = some r := by rw [if_neg (show ¬ (false = true) by decide)] at H; exact H
                 clear H
                 have H := H1
                 clear H1
                 exact absurd ((Option.some.inj H).trans HRT.out) (by decide)
               ·replace c14 := Bool.eq_false_iff.mpr c14
                subst c14
                have H1 : (some false) = some r := by rw [if_neg (show ¬ (false = true) by decide)] at H; exact H
                clear H
                have H := H1
                clear H1
                exact absurd ((Option.some.inj H).trans HRT.out) (by decide)
              ·rw [if_neg c12] at H
               exact absurd H (by simp)
             ·rw [if_neg c11] at H
              exact absurd H (by simp)
            ·rw [if_neg c9] at H
             exact absurd H (by simp)
           ·rw [if_neg c8] at H
            exact absurd H (by simp)
         ·rw [if_neg c5] at H
          have c5b0 : decide (x4_3 ≤ 8) = false := decide_eq_false c5
          clear c5
          by_cases c63 : (y462.length : Int) = 0
          ·rw [if_pos c63] at H
           exact absurd H (by simp)
          ·rw [if_neg c63] at H
           have c63b0 : ((y462.length : Int) == 0) = false := beq_eq_false_iff_ne.mpr c63
           have c63b1 : ((y462.length : Int) != 0) = true := bne_iff_ne.mpr c63
           have c63b2 : ¬ (y462 = []) := fun h_ => c63 (by rw [h_]; rfl)
           obtain ⟨ji64, hji64⟩ : ∃ j_ : Int, (Int.tmod (wrap64 (x2_1 + 1)) (y462.length : Int)) = j_ := ⟨_, rfl⟩
           replace H : (if 0 ≤ (ji64) then (if (ji64) < (y462.length : Int) then ((lockgatelaw14_ValueSwaps.f k3 (wrap64 (x2_1 * 16)) ((Int.tmod x3_2 2) == 0) x3_2 (rd y462 (ji64)) 0).bind fun t480 => (if t480 = true then ((lockgatelaw14_ValueBack.f k3 x3_2 5 7 (rd y462 (ji64)) 9).bind fun t482 => (if t482 = true then (lockgatelaw14_ValueKnown.l1 k3 y462 x2_1 (wrap64 (x3_2 + 1))) else (some false))) else (some false))) else (none)) else (none)) = some r := by first | (rw [hji64] at H; exact H) | (simp only [hji64] at H ⊢; exact H)
           by_cases c65 : 0 ≤ (ji64)
           ·rw [if_pos c65] at H
            have c65b0 : decide (0 ≤ (ji64)) = true := decide_eq_true c65
            clear c65
            by_cases c66 : (ji64) < (y462.length : Int)
            ·rw [if_pos c66] at H
             have c66b0 : decide ((ji64) < (y462.length : Int)) = true := decide_eq_true c66
             clear c66
             replace H := Option.bind_eq_some_iff.mp H
             obtain ⟨t480, A670, H⟩ := H
             replace H : (if t480 = true then ((lockgatelaw14_ValueBack.f k3 x3_2 5 7 (rd y462 (ji64)) 9).bind fun t482 => (if t482 = true then (lockgatelaw14_ValueKnown.l1 k3 y462 x2_1 (wrap64 (x3_2 + 1))) else (some false))) else (some false)) = some r := H
             have A67 := Aside0.mk A670
             clear A670
             by_cases c68 : t480 = true
             ·subst c68
              have H1 : ((lockgatelaw14_ValueBack.f k3 x3_2 5 7 (rd y462 (ji64)) 9).bind fun t482 => (if t482 = true then (lockgatelaw14_ValueKnown.l1 k3 y462 x2_1 (wrap64 (x3_2 + 1))) else (some false))) = some r := by rw [if_pos rfl] at H; exact H
              clear H
              have H := H1
              clear H1
              replace H := Option.bind_eq_some_iff.mp H
              obtain ⟨t482, A690, H⟩ := H
              replace H : (if t482 = true then (lockgatelaw14_ValueKnown.l1 k3 y462 x2_1 (wrap64 (x3_2 + 1))) else (some false)) = some r := H
              have A69 := Aside0.mk A690
              clear A690
              by_cases c70 : t482 = true
              ·subst c70
               have H1 : (lockgatelaw14_ValueKnown.l1 k3 y462 x2_1 (wrap64 (x3_2 + 1))) = some r := by rw [if_pos rfl] at H; exact H
               clear H
               have H := H1
               clear H1
               have H' := Aside0.mk H
               clear H
               obtain ⟨Ao71, co71, eo71⟩ := Kd.R_slice HO_1.out
               subst eo71
               have p479 : 0 ≤ ((ji64) : Int) := of_decide_eq_true (by first | (with_reducible assumption) | assumption)
               have q479 : (ji64) < (y462.length : Int) := of_decide_eq_true (by first | (with_reducible assumption) | assumption)
               obtain ⟨ad479, e479, hx479_0⟩ := Kd.at_int (Kd.R_reads' HO_1.out).2.2 (ji64) p479 q479
               cases e479
               replace p479 := eq_true p479
               replace q479 := eq_true q479
               go_wp2_with (first | ((with_reducible refine gate_callee (f := 8) rfl ?_); refine goesL_ (some 117) rfl rfl Try.func8 (by kernel_rfl) rfl #[.int .i64 (wrap64 (x2_1 * 16)), .bool ((Int.tmod x3_2 2) == 0), .agg #[.int .i64 x3_2, .int .u64 (rd y462 (ji64)), .int .i64 0]] rfl (by (try simp only [List.map_toArray, List.map_cons, List.map_nil]); first | done | (simp only [hji64]; rfl) | rfl | (simp only [List.length_drop, List.length_take]; rfl)) ?_; (with_reducible refine (lockgatelaw14_ValueSwaps.calls k3 (wrap64 (x2_1 * 16)) ((Int.tmod x3_2 2) == 0) x3_2 (rd y462 (ji64)) 0 true _ (.mk rfl) A67.out).mono ?_); rintro e w72 ⟨rfl, hb⟩; refine ⟨_, rfl, ?_⟩; replace HO_1 := Aside0.mk (Kd.R_below (by (with_reducible repeat (first | apply Kd.R_alloc | apply Kd.R_drewN | apply Kd.R_drew)); exact HO_1.out) hb); replace HB := bl_ hb; (try clear hb); (try clear hb2); (try clear hk); (try clear hi); have p481 : 0 ≤ ((ji64) : Int) := of_decide_eq_true (by first | (with_reducible assumption) | assumption); have q481 : (ji64) < (y462.length : Int) := of_decide_eq_true (by first | (with_reducible assumption) | assumption); obtain ⟨ad481, e481, hx481_0⟩ := Kd.at_int (Kd.R_reads' HO_1.out).2.2 (ji64) p481 q481; obtain rfl : ad479 = ad481 := (by injection e481); replace p481 := eq_true p481; replace q481 := eq_true q481) | (go_at_call 6; (with_reducible refine (lockgatelaw14_ValueBack.calls k3 x3_2 5 7 (rd y462 (ji64)) 9 true _ (.mk rfl) A69.out).mono ?_); rintro e w73 ⟨rfl, hb⟩; replace HO_1 := Aside0.mk (Kd.R_below (by (with_reducible repeat (first | apply Kd.R_alloc | apply Kd.R_drewN | apply Kd.R_drew)); exact HO_1.out) hb); replace HB := bl_ hb; (try clear hb); (try clear hb2); (try clear hk); (try clear hi)))
               go_roundg k3
               case measure => have := HK1.out; have := HK2.out; have := HK3.out; omega
               case rel => exact ⟨(wrap64 (x3_2 + 1)), (by first | rfl | (simp; done) | (simp [*]; done)), H', ⟨by have := HK1.out; have := HK2.out; have := HK3.out; omega⟩, ⟨by (with_reducible repeat (first | apply Kd.R_alloc | apply Kd.R_drewN | apply Kd.R_drew)); exact HO_1.out⟩, ⟨bz_⟩⟩
              ·replace c70 := Bool.eq_false_iff.mpr c70
               subst c70
               have H1 : (some false) = some r := by rw [if_neg (show ¬ (false = true) by decide)] at H; exact H
               clear H
               have H := H1
               clear H1
               exact absurd ((Option.some.inj H).trans HRT.out) (by decide)
             ·replace c68 := Bool.eq_false_iff.mpr c68
              subst c68
              have H1 : (some false) = some r := by rw [if_neg (show ¬ (false = true) by decide)] at H; exact H
              clear H
              have H := H1
              clear H1
              exact absurd ((Option.some.inj H).trans HRT.out) (by decide)
            ·rw [if_neg c66] at H
             exact absurd H (by simp)
           ·rw [if_neg c65] at H
            exact absurd H (by simp)
      ·rw [if_neg c4] at H
       have c4b0 : decide (x3_2 ≤ 8) = false := decide_eq_false c4
       clear c4
       have H' := Aside0.mk H
       clear H
       go_wp2
       go_loopg [8] k2 (fun kq v8 w' => ∃ (x8_3 : Int), v8 = .int .i64 x8_3 ∧ Aside0 (lockgatelaw14_ValueKnown.l3 kq y462 x2_1 x8_3 = some r) ∧ Aside0 (kq ≤ k2) ∧ Aside0 (Kd.R (Kd.int .u64) 22 w' w.heap.size (fun _ => True) v463 y462) ∧ Aside0 (Below w.heap.size w w'))
       case atStart => exact ⟨(0), (by first | rfl | (simp; done) | (simp [*]; done)), H', ⟨Nat.le_refl _⟩, ⟨by (with_reducible repeat (first | apply Kd.R_alloc | apply Kd.R_drewN | apply Kd.R_drew)); exact HO_1.out⟩, ⟨bz_⟩⟩
       case round =>
        clear H'
        try clear c1
        try clear c2
        try clear p2
        try clear c3
        try clear c3b0
        try clear c4
        try clear c4b0
        try clear p4
        try clear q4
        try clear hx4
        try clear c5
        try clear c5b0
        try clear c6
        try clear c6b0
        try clear c6b1
        try clear c6b2
        try clear p6
        try clear c7
        try clear c8
        try clear c8b0
        try clear c9
        try clear c9b0
        try clear c10
        try clear c11
        try clear c11b0
        try clear c12
        try clear c12b0
        try clear c14
        try clear c16
        try clear c18
        try clear c20
        try clear c22
        try clear c24
        try clear c26
        try clear c28
        try clear c33
        try clear c36
        try clear c37
        try clear p46
        try clear q46
        try clear hx46
        try clear p47
        try clear q47
        try clear hx47
        try clear p48
        try clear q48
        try clear hx48
        try clear c63
        try clear c63b0
        try clear c63b1
        try clear c63b2
        try clear p64
        try clear c65
        try clear c65b0
        try clear c66
        try clear c66b0
        try clear c68
        try clear c70
        try clear zc31_0
        try clear zc31_1
        try clear zc31_2
        try clear zc34_0
        try clear zc34_1
        try clear zc34_2
        try clear zc38_0
        try clear zc38_1
        try clear zc38_2
        try clear zc39_0
        try clear zc39_1
        try clear zc39_2
        try clear zc40_0
        try clear zc40_1
        try clear zc40_2
        try clear zc42_0
        try clear zc42_1
        try clear zc42_2
        try clear zc43_0
        try clear zc43_1
        try clear zc43_2
        try clear zc45_0
        try clear zc45_1
        try clear zc45_2
        try clear zc46_0
        try clear zc46_1
        try clear zc46_2
        try clear zc48_0
        try clear zc48_1
        try clear zc48_2
        try clear zc49_0
        try clear zc49_1
        try clear zc49_2
        try clear zc51_0
        try clear zc51_1
        try clear zc51_2
        try clear zc52_0
        try clear zc52_1
        try clear zc52_2
        try clear zc54_0
        try clear zc54_1
        try clear zc54_2
        try clear zc55_0
        try clear zc55_1
        try clear zc55_2
        try clear zc57_0
        try clear zc57_1
        try clear zc57_2
        try clear zc58_0
        try clear zc58_1
        try clear zc58_2
        try clear zc60_0
        try clear zc60_1
        try clear zc60_2
        try clear zc61_0
        try clear zc61_1
        try clear zc61_2
        try clear zf31_0
        try clear zf31_1
        try clear zf31_2
        try clear zf34_0
        try clear zf34_1
        try clear zf34_2
        try clear zf38_0
        try clear zf38_1
        try clear zf38_2
        try clear zf39_0
        try clear zf39_1
        try clear zf39_2
        try clear zf40_0
        try clear zf40_1
        try clear zf40_2
        try clear zf42_0
        try clear zf42_1
        try clear zf42_2
        try clear zf43_0
        try clear zf43_1
        try clear zf43_2
        try clear zf45_0
        try clear zf45_1
        try clear zf45_2
        try clear zf46_0
        try clear zf46_1
        try clear zf46_2
        try clear zf48_0
        try clear zf48_1
        try clear zf48_2
        try clear zf49_0
        try clear zf49_1
        try clear zf49_2
        try clear zf51_0
        try clear zf51_1
        try clear zf51_2
        try clear zf52_0
        try clear zf52_1
        try clear zf52_2
        try clear zf54_0
        try clear zf54_1
        try clear zf54_2
        try clear zf55_0
        try clear zf55_1
        try clear zf55_2
        try clear zf57_0
        try clear zf57_1
        try clear zf57_2
        try clear zf58_0
        try clear zf58_1
        try clear zf58_2
        try clear zf60_0
        try clear zf60_1
        try clear zf60_2
        try clear zf61_0
        try clear zf61_1
        try clear zf61_2
        try clear hx466_0
        try clear hx468_0
        try clear hx479_0
        try clear hx481_0
        try clear p2
        try clear p466
        try clear p468
        try clear p479
        try clear p481
        try clear q466
        try clear q468
        try clear q479
        try clear q481
        obtain ⟨x8_3, rfl, HA, HK3, HO_1, HB⟩ := hrel
        cases gk with
        | zero => exact absurd HA.out (by simp [lockgatelaw14_ValueKnown.l3])
        | succ k3 =>
         have H := HA.out
         clear HA
         simp only [lockgatelaw14_ValueKnown.l3] at H
         by_cases c74 : x8_3 < (y462.length : Int)
         ·rw [if_pos c74] at H
          have c74b0 : decide (x8_3 < (y462.length : Int)) = true := decide_eq_true c74
          clear c74
          by_cases c75 : 0 ≤ x8_3
          ·rw [if_pos c75] at H
           have c75b0 : decide (0 ≤ x8_3) = true := decide_eq_true c75
           clear c75
           by_cases c76 : (y462.length : Int) = 0
           ·rw [if_pos c76] at H
            exact absurd H (by simp)
           ·rw [if_neg c76] at H
            have c76b0 : ((y462.length : Int) == 0) = false := beq_eq_false_iff_ne.mpr c76
            have c76b1 : ((y462.length : Int) != 0) = true := bne_iff_ne.mpr c76
            have c76b2 : ¬ (y462 = []) := fun h_ => c76 (by rw [h_]; rfl)
            obtain ⟨ji77, hji77⟩ : ∃ j_ : Int, (Int.tmod (wrap64 ((wrap64 ((wrap64 (x8_3 * 3)) + x2_1)) + 1)) (y462.length : Int)) = j_ := ⟨_, rfl⟩
            replace H : (if 0 ≤ (ji77) then (if (ji77) < (y462.length : Int) then ((lockgatelaw14_ValueNumbers.f k3 x2_1 ((Int.tmod x8_3 2) == 0) (rd y462 x8_3) (rd y462 (ji77)) 5).bind fun t485 => (if t485 = true then ((lockgatelaw14_ValueNumbers.f k3 (wrap64 (x2_1 * 16)) true (rd y462 x8_3) 1 5).bind fun t487 => (if t487 = true then ((lockgatelaw14_ValueOrders.f k3 (rd y462 x8_3) x2_1).bind fun t489 => (if t489 = true then (lockgatelaw14_ValueKnown.l3 k3 y462 x2_1 (wrap64 (x8_3 + 1))) else (some false))) else (some false))) else (some false))) else (none)) else (none)) = some r := by first | (rw [hji77] at H; exact H) | (simp only [hji77] at H ⊢; exact H)
            by_cases c78 : 0 ≤ (ji77)
            ·rw [if_pos c78] at H
             have c78b0 : decide (0 ≤ (ji77)) = true := decide_eq_true c78
             clear c78
             by_cases c79 : (ji77) < (y462.length : Int)
             ·rw [if_pos c79] at H
              have c79b0 : decide ((ji77) < (y462.length : Int)) = true := decide_eq_true c79
              clear c79
              replace H := Option.bind_eq_some_iff.mp H
              obtain ⟨t485, A800, H⟩ := H
              replace H : (if t485 = true then ((lockgatelaw14_ValueNumbers.f k3 (wrap64 (x2_1 * 16)) true (rd y462 x8_3) 1 5).bind fun t487 => (if t487 = true then ((lockgatelaw14_ValueOrders.f k3 (rd y462 x8_3) x2_1).bind fun t489 => (if t489 = true then (lockgatelaw14_ValueKnown.l3 k3 y462 x2_1 (wrap64 (x8_3 + 1))) else (some false))) else (some false))) else (some false)) = some r := H
              have A80 := Aside0.mk A800
              clear A800
              by_cases c81 : t485 = true
              ·subst c81
               have H1 : ((lockgatelaw14_ValueNumbers.f k3 (wrap64 (x2_1 * 16)) true (rd y462 x8_3) 1 5).bind fun t487 => (if t487 = true then ((lockgatelaw14_ValueOrders.f k3 (rd y462 x8_3) x2_1).bind fun t489 => (if t489 = true then (lockgatelaw14_ValueKnown.l3 k3 y462 x2_1 (wrap64 (x8_3 + 1))) else (some false))) else (some false))) = some r := by rw [if_pos rfl] at H; exact H
               clear H
               have H := H1
               clear H1
               replace H := Option.bind_eq_some_iff.mp H
               obtain ⟨t487, A820, H⟩ := H
               replace H : (if t487 = true then ((lockgatelaw14_ValueOrders.f k3 (rd y462 x8_3) x2_1).bind fun t489 => (if t489 = true then (lockgatelaw14_ValueKnown.l3 k3 y462 x2_1 (wrap64 (x8_3 + 1))) else (some false))) else (some false)) = some r := H
               have A82 := Aside0.mk A820
               clear A820
               by_cases c83 : t487 = true
               ·subst c83
                have H1 : ((lockgatelaw14_ValueOrders.f k3 (rd y462 x8_3) x2_1).bind fun t489 => (if t489 = true then (lockgatelaw14_ValueKnown.l3 k3 y462 x2_1 (wrap64 (x8_3 + 1))) else (some false))) = some r := by rw [if_pos rfl] at H; exact H
                clear H
                have H := H1
                clear H1
                replace H := Option.bind_eq_some_iff.mp H
                obtain ⟨t489, A840, H⟩ := H
                replace H : (if t489 = true then (lockgatelaw14_ValueKnown.l3 k3 y462 x2_1 (wrap64 (x8_3 + 1))) else (some false)) = some r := H
                have A84 := Aside0.mk A840
                clear A840
                by_cases c85 : t489 = true
                ·subst c85
                 have H1 : (lockgatelaw14_ValueKnown.l3 k3 y462 x2_1 (wrap64 (x8_3 + 1))) = some r := by rw [if_pos rfl] at H; exact H
                 clear H
                 have H := H1
                 clear H1
                 have H' := Aside0.mk H
                 clear H
                 obtain ⟨Ao86, co86, eo86⟩ := Kd.R_slice HO_1.out
                 subst eo86
                 try go_wp2
                 replace HO_1 := Aside0.mk (Kd.R_drew HO_1.out)
                 replace HB := Aside0.mk (below_drew1 HB.out)
                 have p483 : 0 ≤ (x8_3 : Int) := of_decide_eq_true (by first | (with_reducible assumption) | assumption)
                 have q483 : x8_3 < (y462.length : Int) := of_decide_eq_true (by first | (with_reducible assumption) | assumption)
                 obtain ⟨ad483, e483, hx483_0⟩ := Kd.at_int (Kd.R_reads' HO_1.out).2.2 x8_3 p483 q483
                 cases e483
                 replace p483 := eq_true p483
                 replace q483 := eq_true q483
                 have p484 : 0 ≤ ((ji77) : Int) := of_decide_eq_true (by first | (with_reducible assumption) | assumption)
                 have q484 : (ji77) < (y462.length : Int) := of_decide_eq_true (by first | (with_reducible assumption) | assumption)
                 obtain ⟨ad484, e484, hx484_0⟩ := Kd.at_int (Kd.R_reads' HO_1.out).2.2 (ji77) p484 q484
                 obtain rfl : ad483 = ad484 := (by injection e484)
                 replace p484 := eq_true p484
                 replace q484 := eq_true q484
                 have p486 : 0 ≤ (x8_3 : Int) := of_decide_eq_true (by first | (with_reducible assumption) | assumption)
                 have q486 : x8_3 < (y462.length : Int) := of_decide_eq_true (by first | (with_reducible assumption) | assumption)
                 obtain ⟨ad486, e486, hx486_0⟩ := Kd.at_int (Kd.R_reads' HO_1.out).2.2 x8_3 p486 q486
                 obtain rfl : ad483 = ad486 := (by injection e486)
                 replace p486 := eq_true p486
                 replace q486 := eq_true q486
                 have p488 : 0 ≤ (x8_3 : Int) := of_decide_eq_true (by first | (with_reducible assumption) | assumption)
                 have q488 : x8_3 < (y462.length : Int) := of_decide_eq_true (by first | (with_reducible assumption) | assumption)
                 obtain ⟨ad488, e488, hx488_0⟩ := Kd.at_int (Kd.R_reads' HO_1.out).2.2 x8_3 p488 q488
                 obtain rfl : ad483 = ad488 := (by injection e488)
                 replace p488 := eq_true p488
                 replace q488 := eq_true q488
                 refine start_ (n := 40) (S := fun w' => w'.cell? (ad483.add (x8_3).toNat) = some (.int .u64 (rd y462 x8_3)) ∧ w'.cell? (ad483.add ((ji77)).toNat) = some (.int .u64 (rd y462 (ji77))) ∧ w'.cell? (ad483.add (x8_3).toNat) = some (.int .u64 (rd y462 x8_3)) ∧ w'.cell? (ad483.add (x8_3).toNat) = some (.int .u64 (rd y462 x8_3))) (ds := []) #[n_,n_,n_,n_,n_,n_,n_,n_,n_,n_,n_,n_,n_,n_,n_,n_,n_,n_,n_,n_,n_,n_,n_,n_,n_,n_,n_,n_,n_,n_,n_,n_,n_,n_,n_,n_,n_,n_,n_,n_] (by kernel_rfl) rfl rfl ⟨hx483_0, hx484_0, hx486_0, hx488_0⟩ (fun hHeld => ?_); refine with_tabW lockgatelaw14_ValueKnown.tab21 lockgatelaw14_ValueKnown.bits21 (fun HT_ HW_ => ?_)
                 generalize wr.drew = w87 at HO_1 HB hx483_0 hx484_0 hx486_0 hx488_0 hHeld ⊢
                 refine pq_ 0 139 #[y_,n_,n_,n_,n_,n_,n_,n_,n_,n_,n_,n_,n_,n_,n_,n_,n_,n_,n_,n_,n_,n_,n_,n_,n_,n_,n_,n_,n_,n_,n_,n_,n_,n_,n_,n_,n_,n_,n_,n_] ?_
                 refine pq_ 1 140 #[y_,y_,n_,n_,n_,n_,n_,n_,n_,n_,n_,n_,n_,n_,n_,n_,n_,n_,n_,n_,n_,n_,n_,n_,n_,n_,n_,n_,n_,n_,n_,n_,n_,n_,n_,n_,n_,n_,n_,n_] ?_
                 refine pq_ 2 141 #[y_,y_,y_,n_,n_,n_,n_,n_,n_,n_,n_,n_,n_,n_,n_,n_,n_,n_,n_,n_,n_,n_,n_,n_,n_,n_,n_,n_,n_,n_,n_,n_,n_,n_,n_,n_,n_,n_,n_,n_] ?_
                 refine pq_ 3 142 #[y_,y_,y_,y_,n_,n_,n_,n_,n_,n_,n_,n_,n_,n_,n_,n_,n_,n_,n_,n_,n_,n_,n_,n_,n_,n_,n_,n_,n_,n_,n_,n_,n_,n_,n_,n_,n_,n_,n_,n_] ?_
                 refine pq_ 4 143 #[y_,y_,y_,y_,y_,n_,n_,n_,n_,n_,n_,n_,n_,n_,n_,n_,n_,n_,n_,n_,n_,n_,n_,n_,n_,n_,n_,n_,n_,n_,n_,n_,n_,n_,n_,n_,n_,n_,n_,n_] ?_
                 refine pq_ 5 144 #[y_,y_,y_,y_,y_,y_,n_,n_,n_,n_,n_,n_,n_,n_,n_,n_,n_,n_,n_,n_,n_,n_,n_,n_,n_,n_,n_,n_,n_,n_,n_,n_,n_,n_,n_,n_,n_,n_,n_,n_] ?_
                 refine pq_ 6 145 #[y_,y_,y_,y_,y_,y_,y_,n_,n_,n_,n_,n_,n_,n_,n_,n_,n_,n_,n_,n_,n_,n_,n_,n_,n_,n_,n_,n_,n_,n_,n_,n_,n_,n_,n_,n_,n_,n_,n_,n_] ?_
                 refine pq_ 8 147 #[y_,y_,y_,y_,y_,y_,y_,n_,y_,n_,n_,n_,n_,n_,n_,n_,n_,n_,n_,n_,n_,n_,n_,n_,n_,n_,n_,n_,n_,n_,n_,n_,n_,n_,n_,n_,n_,n_,n_,n_] ?_
                 refine pq_ 9 148 #[y_,y_,y_,y_,y_,y_,y_,n_,y_,y_,n_,n_,n_,n_,n_,n_,n_,n_,n_,n_,n_,n_,n_,n_,n_,n_,n_,n_,n_,n_,n_,n_,n_,n_,n_,n_,n_,n_,n_,n_] ?_
                 refine pq_ 10 149 #[y_,y_,y_,y_,y_,y_,y_,n_,y_,y_,y_,n_,n_,n_,n_,n_,n_,n_,n_,n_,n_,n_,n_,n_,n_,n_,n_,n_,n_,n_,n_,n_,n_,n_,n_,n_,n_,n_,n_,n_] ?_
                 refine pq_ 11 150 #[y_,y_,y_,y_,y_,y_,y_,n_,y_,y_,y_,y_,n_,n_,n_,n_,n_,n_,n_,n_,n_,n_,n_,n_,n_,n_,n_,n_,n_,n_,n_,n_,n_,n_,n_,n_,n_,n_,n_,n_] ?_
                 refine pq_ 12 151 #[y_,y_,y_,y_,y_,y_,y_,n_,y_,y_,y_,y_,y_,n_,n_,n_,n_,n_,n_,n_,n_,n_,n_,n_,n_,n_,n_,n_,n_,n_,n_,n_,n_,n_,n_,n_,n_,n_,n_,n_] ?_
                 refine pq_ 13 152 #[y_,y_,y_,y_,y_,y_,y_,n_,y_,y_,y_,y_,y_,y_,n_,n_,n_,n_,n_,n_,n_,n_,n_,n_,n_,n_,n_,n_,n_,n_,n_,n_,n_,n_,n_,n_,n_,n_,n_,n_] ?_
                 refine pq_ 14 153 #[y_,y_,y_,y_,y_,y_,y_,n_,y_,y_,y_,y_,y_,y_,y_,n_,n_,n_,n_,n_,n_,n_,n_,n_,n_,n_,n_,n_,n_,n_,n_,n_,n_,n_,n_,n_,n_,n_,n_,n_] ?_
                 refine pq_ 15 154 #[y_,y_,y_,y_,y_,y_,y_,n_,y_,y_,y_,y_,y_,y_,y_,y_,n_,n_,n_,n_,n_,n_,n_,n_,n_,n_,n_,n_,n_,n_,n_,n_,n_,n_,n_,n_,n_,n_,n_,n_] ?_
                 refine pq_ 16 155 #[y_,y_,y_,y_,y_,y_,y_,n_,y_,y_,y_,y_,y_,y_,y_,y_,y_,n_,n_,n_,n_,n_,n_,n_,n_,n_,n_,n_,n_,n_,n_,n_,n_,n_,n_,n_,n_,n_,n_,n_] ?_
                 refine pq_ 17 156 #[y_,y_,y_,y_,y_,y_,y_,n_,y_,y_,y_,y_,y_,y_,y_,y_,y_,y_,n_,n_,n_,n_,n_,n_,n_,n_,n_,n_,n_,n_,n_,n_,n_,n_,n_,n_,n_,n_,n_,n_] ?_
                 refine tq3_ 7 146 #[y_,y_,y_,y_,y_,y_,y_,y_,y_,y_,y_,y_,y_,y_,y_,y_,y_,y_,n_,n_,n_,n_,n_,n_,n_,n_,n_,n_,n_,n_,n_,n_,n_,n_,n_,n_,n_,n_,n_,n_] hHeld ?_
                 refine tq3_ 18 157 #[y_,y_,y_,y_,y_,y_,y_,y_,y_,y_,y_,y_,y_,y_,y_,y_,y_,y_,y_,n_,n_,n_,n_,n_,n_,n_,n_,n_,n_,n_,n_,n_,n_,n_,n_,n_,n_,n_,n_,n_] hHeld ?_
                 refine one_ (i := 19) (N := some 158) #[y_,y_,y_,y_,y_,y_,y_,y_,y_,y_,y_,y_,y_,y_,y_,y_,y_,y_,y_,y_,n_,n_,n_,n_,n_,n_,n_,n_,n_,n_,n_,n_,n_,n_,n_,n_,n_,n_,n_,n_] rfl rfl (one_of HT_.out (by kernel_rfl)) (by decide) (fun K hK => ?_)
                 refine goes_ Try.func9 (by kernel_rfl) rfl #[.int .i64 x2_1, .bool ((Int.tmod x8_3 2) == 0), .int .u64 (rd y462 x8_3), .int .u64 (rd y462 (ji77)), .int .i64 5] (by rfl) rfl rfl (by (try simp only [List.map_toArray, List.map_cons, List.map_nil]); first | done | (simp only [hji77]; rfl) | rfl | (simp only [List.length_drop, List.length_take]; rfl)) ?_
                 with_reducible refine (lockgatelaw14_ValueNumbers.calls k3 x2_1 ((Int.tmod x8_3 2) == 0) (rd y462 x8_3) (rd y462 (ji77)) 5 true _ (.mk rfl) A80.out).mono ?_
                 rintro e w88 ⟨rfl, hb⟩
                 have HS0_ := (hb.cell (World.block_lt_of_cell? _ _ (hHeld.1))).trans (hHeld.1)
                 have HS1_ := (hb.cell (World.block_lt_of_cell? _ _ (hHeld.2.1))).trans (hHeld.2.1)
                 have HS2_ := (hb.cell (World.block_lt_of_cell? _ _ (hHeld.2.2.1))).trans (hHeld.2.2.1)
                 have HS3_ := (hb.cell (World.block_lt_of_cell? _ _ (hHeld.2.2.2))).trans (hHeld.2.2.2)
                 refine ⟨_, rfl, ?_⟩
                 replace HO_1 := Aside0.mk (Kd.R_below (by (with_reducible repeat (first | apply Kd.R_alloc | apply Kd.R_drewN | apply Kd.R_drew)); exact HO_1.out) hb)
                 replace HB := bl_ hb
                 try clear hb
                 refine hK.out _ _ ⟨HS0_, HS1_, HS2_, HS3_⟩ (fun hHeld => ?_)
                 clear hK K
                 refine norm_ (a' := ?_) ?_ ?_
                 rotate_left
                 ·show Act.put _ (some 158) _ = _
                  simp only [Act.put, s1_, s2_, s3_, i64_w, i32_w]
                  rfl
                 refine pq_ 20 159 #[y_,y_,y_,y_,y_,y_,y_,y_,y_,y_,y_,y_,y_,y_,y_,y_,y_,y_,y_,y_,y_,n_,n_,n_,n_,n_,n_,n_,n_,n_,n_,n_,n_,n_,n_,n_,n_,n_,n_,n_] ?_
                 refine pq_ 21 160 #[y_,y_,y_,y_,y_,y_,y_,y_,y_,y_,y_,y_,y_,y_,y_,y_,y_,y_,y_,y_,y_,y_,n_,n_,n_,n_,n_,n_,n_,n_,n_,n_,n_,n_,n_,n_,n_,n_,n_,n_] ?_
                 refine pq_ 22 161 #[y_,y_,y_,y_,y_,y_,y_,y_,y_,y_,y_,y_,y_,y_,y_,y_,y_,y_,y_,y_,y_,y_,y_,n_,n_,n_,n_,n_,n_,n_,n_,n_,n_,n_,n_,n_,n_,n_,n_,n_] ?_
                 refine pq_ 23 162 #[y_,y_,y_,y_,y_,y_,y_,y_,y_,y_,y_,y_,y_,y_,y_,y_,y_,y_,y_,y_,y_,y_,y_,y_,n_,n_,n_,n_,n_,n_,n_,n_,n_,n_,n_,n_,n_,n_,n_,n_] ?_
                 refine pq_ 24 163 #[y_,y_,y_,y_,y_,y_,y_,y_,y_,y_,y_,y_,y_,y_,y_,y_,y_,y_,y_,y_,y_,y_,y_,y_,y_,n_,n_,n_,n_,n_,n_,n_,n_,n_,n_,n_,n_,n_,n_,n_] ?_
                 refine pq_ 25 164 #[y_,y_,y_,y_,y_,y_,y_,y_,y_,y_,y_,y_,y_,y_,y_,y_,y_,y_,y_,y_,y_,y_,y_,y_,y_,y_,n_,n_,n_,n_,n_,n_,n_,n_,n_,n_,n_,n_,n_,n_] ?_
                 refine pq_ 26 165 #[y_,y_,y_,y_,y_,y_,y_,y_,y_,y_,y_,y_,y_,y_,y_,y_,y_,y_,y_,y_,y_,y_,y_,y_,y_,y_,y_,n_,n_,n_,n_,n_,n_,n_,n_,n_,n_,n_,n_,n_] ?_
                 refine tq3_ 27 166 #[y_,y_,y_,y_,y_,y_,y_,y_,y_,y_,y_,y_,y_,y_,y_,y_,y_,y_,y_,y_,y_,y_,y_,y_,y_,y_,y_,y_,n_,n_,n_,n_,n_,n_,n_,n_,n_,n_,n_,n_] hHeld ?_
                 refine one_ (i := 28) (N := some 167) #[y_,y_,y_,y_,y_,y_,y_,y_,y_,y_,y_,y_,y_,y_,y_,y_,y_,y_,y_,y_,y_,y_,y_,y_,y_,y_,y_,y_,y_,n_,n_,n_,n_,n_,n_,n_,n_,n_,n_,n_] rfl rfl (one_of HT_.out (by kernel_rfl)) (by decide) (fun K hK => ?_)
                 refine goes_ Try.func9 (by kernel_rfl) rfl #[.int .i64 (wrap64 (x2_1 * 16)), .bool true, .int .u64 (rd y462 x8_3), .int .u64 1, .int .i64 5] (by rfl) rfl rfl mp_ ?_
                 with_reducible refine (lockgatelaw14_ValueNumbers.calls k3 (wrap64 (x2_1 * 16)) true (rd y462 x8_3) 1 5 true _ (.mk rfl) A82.out).mono ?_
                 rintro e w89 ⟨rfl, hb⟩
                 have HS0_ := (hb.cell (World.block_lt_of_cell? _ _ (hHeld.1))).trans (hHeld.1)
                 have HS1_ := (hb.cell (World.block_lt_of_cell? _ _ (hHeld.2.1))).trans (hHeld.2.1)
                 have HS2_ := (hb.cell (World.block_lt_of_cell? _ _ (hHeld.2.2.1))).trans (hHeld.2.2.1)
                 have HS3_ := (hb.cell (World.block_lt_of_cell? _ _ (hHeld.2.2.2))).trans (hHeld.2.2.2)
                 refine ⟨_, rfl, ?_⟩
                 replace HO_1 := Aside0.mk (Kd.R_below (by (with_reducible repeat (first | apply Kd.R_alloc | apply Kd.R_drewN | apply Kd.R_drew)); exact HO_1.out) hb)
                 replace HB := bl_ hb
                 try clear hb
                 refine hK.out _ _ ⟨HS0_, HS1_, HS2_, HS3_⟩ (fun hHeld => ?_)
                 clear hK K
                 refine norm_ (a' := ?_) ?_ ?_
                 rotate_left
                 ·show Act.put _ (some 167) _ = _
                  simp only [Act.put, s1_, s2_, s3_, i64_w, i32_w]
                  rfl
                 refine pq_ 29 168 #[y_,y_,y_,y_,y_,y_,y_,y_,y_,y_,y_,y_,y_,y_,y_,y_,y_,y_,y_,y_,y_,y_,y_,y_,y_,y_,y_,y_,y_,y_,n_,n_,n_,n_,n_,n_,n_,n_,n_,n_] ?_
                 refine pq_ 30 169 #[y_,y_,y_,y_,y_,y_,y_,y_,y_,y_,y_,y_,y_,y_,y_,y_,y_,y_,y_,y_,y_,y_,y_,y_,y_,y_,y_,y_,y_,y_,y_,n_,n_,n_,n_,n_,n_,n_,n_,n_] ?_
                 refine pq_ 31 170 #[y_,y_,y_,y_,y_,y_,y_,y_,y_,y_,y_,y_,y_,y_,y_,y_,y_,y_,y_,y_,y_,y_,y_,y_,y_,y_,y_,y_,y_,y_,y_,y_,n_,n_,n_,n_,n_,n_,n_,n_] ?_
                 refine pq_ 32 171 #[y_,y_,y_,y_,y_,y_,y_,y_,y_,y_,y_,y_,y_,y_,y_,y_,y_,y_,y_,y_,y_,y_,y_,y_,y_,y_,y_,y_,y_,y_,y_,y_,y_,n_,n_,n_,n_,n_,n_,n_] ?_
                 refine pq_ 33 172 #[y_,y_,y_,y_,y_,y_,y_,y_,y_,y_,y_,y_,y_,y_,y_,y_,y_,y_,y_,y_,y_,y_,y_,y_,y_,y_,y_,y_,y_,y_,y_,y_,y_,y_,n_,n_,n_,n_,n_,n_] ?_
                 refine pq_ 34 173 #[y_,y_,y_,y_,y_,y_,y_,y_,y_,y_,y_,y_,y_,y_,y_,y_,y_,y_,y_,y_,y_,y_,y_,y_,y_,y_,y_,y_,y_,y_,y_,y_,y_,y_,y_,n_,n_,n_,n_,n_] ?_
                 refine pq_ 36 175 #[y_,y_,y_,y_,y_,y_,y_,y_,y_,y_,y_,y_,y_,y_,y_,y_,y_,y_,y_,y_,y_,y_,y_,y_,y_,y_,y_,y_,y_,y_,y_,y_,y_,y_,y_,n_,y_,n_,n_,n_] ?_
                 refine tq3_ 35 174 #[y_,y_,y_,y_,y_,y_,y_,y_,y_,y_,y_,y_,y_,y_,y_,y_,y_,y_,y_,y_,y_,y_,y_,y_,y_,y_,y_,y_,y_,y_,y_,y_,y_,y_,y_,y_,y_,n_,n_,n_] hHeld ?_
                 refine one_ (i := 37) (N := some 176) #[y_,y_,y_,y_,y_,y_,y_,y_,y_,y_,y_,y_,y_,y_,y_,y_,y_,y_,y_,y_,y_,y_,y_,y_,y_,y_,y_,y_,y_,y_,y_,y_,y_,y_,y_,y_,y_,y_,n_,n_] rfl rfl (one_of HT_.out (by kernel_rfl)) (by decide) (fun K hK => ?_)
                 refine goes_ Try.func7 (by kernel_rfl) rfl #[.int .u64 (rd y462 x8_3), .int .i64 x2_1] (by rfl) rfl rfl mp_ ?_
                 with_reducible refine (lockgatelaw14_ValueOrders.calls k3 (rd y462 x8_3) x2_1 true _ (.mk rfl) A84.out).mono ?_
                 rintro e w90 ⟨rfl, hb⟩
                 have HS0_ := (hb.cell (World.block_lt_of_cell? _ _ (hHeld.1))).trans (hHeld.1)
                 have HS1_ := (hb.cell (World.block_lt_of_cell? _ _ (hHeld.2.1))).trans (hHeld.2.1)
                 have HS2_ := (hb.cell (World.block_lt_of_cell? _ _ (hHeld.2.2.1))).trans (hHeld.2.2.1)
                 have HS3_ := (hb.cell (World.block_lt_of_cell? _ _ (hHeld.2.2.2))).trans (hHeld.2.2.2)
                 refine ⟨_, rfl, ?_⟩
                 replace HO_1 := Aside0.mk (Kd.R_below (by (with_reducible repeat (first | apply Kd.R_alloc | apply Kd.R_drewN | apply Kd.R_drew)); exact HO_1.out) hb)
                 replace HB := bl_ hb
                 try clear hb
                 refine hK.out _ _ ⟨HS0_, HS1_, HS2_, HS3_⟩ (fun hHeld => ?_)
                 clear hK K
                 refine norm_ (a' := ?_) ?_ ?_
                 rotate_left
                 ·show Act.put _ (some 176) _ = _
                  simp only [Act.put, s1_, s2_, s3_, i64_w, i32_w]
                  rfl
                 refine pq_ 38 177 #[y_,y_,y_,y_,y_,y_,y_,y_,y_,y_,y_,y_,y_,y_,y_,y_,y_,y_,y_,y_,y_,y_,y_,y_,y_,y_,y_,y_,y_,y_,y_,y_,y_,y_,y_,y_,y_,y_,y_,n_] ?_
                 refine pq_ 39 178 #[y_,y_,y_,y_,y_,y_,y_,y_,y_,y_,y_,y_,y_,y_,y_,y_,y_,y_,y_,y_,y_,y_,y_,y_,y_,y_,y_,y_,y_,y_,y_,y_,y_,y_,y_,y_,y_,y_,y_,y_] ?_
                 refine done_ (done_of HT_.out (by kernel_rfl)) ?_
                 try go_wp2
                 go_roundg k3
                 case measure => have := HK1.out; have := HK2.out; have := HK3.out; omega
                 case rel => exact ⟨(wrap64 (x8_3 + 1)), (by first | rfl | (simp; done) | (simp [*]; done)), H', ⟨by have := HK1.out; have := HK2.out; have := HK3.out; omega⟩, ⟨by (with_reducible repeat (first | apply Kd.R_alloc | apply Kd.R_drewN | apply Kd.R_drew)); exact HO_1.out⟩, ⟨bz_⟩⟩
                ·replace c85 := Bool.eq_false_iff.mpr c85
                 subst c85
                 have H1 : (some false) = some r := by rw [if_neg (show ¬ (false = true) by decide)] at H; exact H
                 clear H
                 have H := H1
                 clear H1
                 exact absurd ((Option.some.inj H).trans HRT.out) (by decide)
               ·replace c83 := Bool.eq_false_iff.mpr c83
                subst c83
                have H1 : (some false) = some r := by rw [if_neg (show ¬ (false = true) by decide)] at H; exact H
                clear H
                have H := H1
                clear H1
                exact absurd ((Option.some.inj H).trans HRT.out) (by decide)
              ·replace c81 := Bool.eq_false_iff.mpr c81
               subst c81
               have H1 : (some false) = some r := by rw [if_neg (show ¬ (false = true) by decide)] at H; exact H
               clear H
               have H := H1
               clear H1
               exact absurd ((Option.some.inj H).trans HRT.out) (by decide)
             ·rw [if_neg c79] at H
              exact absurd H (by simp)
            ·rw [if_neg c78] at H
             exact absurd H (by simp)
          ·rw [if_neg c75] at H
           exact absurd H (by simp)
         ·rw [if_neg c74] at H
          have c74b0 : decide (x8_3 < (y462.length : Int)) = false := decide_eq_false c74
          clear c74
          have H' := Aside0.mk H
          clear H
          obtain ⟨Ao91, co91, eo91⟩ := Kd.R_slice HO_1.out
          subst eo91
          go_wp2
          go_roundg k3
          case measure => have := HK1.out; have := HK2.out; have := HK3.out; omega
          case rel => exact ⟨(wrap64 (x2_1 + 1)), (by first | rfl | (simp; done) | (simp [*]; done)), H', ⟨by have := HK1.out; have := HK2.out; have := HK3.out; omega⟩, ⟨by (with_reducible repeat (first | apply Kd.R_alloc | apply Kd.R_drewN | apply Kd.R_drew)); exact HO_1.out⟩, ⟨bz_⟩⟩
   ·rw [if_neg c3] at H
    have c3b0 : decide (x2_1 ≤ 16) = false := decide_eq_false c3
    clear c3
    replace H := Option.bind_eq_some_iff.mp H
    obtain ⟨t465, A920, H⟩ := H
    replace H : (some t465) = some r := H
    have A92 := Aside0.mk A920
    clear A920
    obtain rfl := Option.some.inj H
    go_wp2_with (first | ((with_reducible refine gate_callee (f := 19) rfl ?_); refine gM_ 179 Try.func19 (lockgatelaw14_works.calls k1  t465 _ A92.out) ?_; intro w93 hb; replace HO_1 := Aside0.mk (Kd.R_below (by (with_reducible repeat (first | apply Kd.R_alloc | apply Kd.R_drewN | apply Kd.R_drew)); exact HO_1.out) hb); replace HB := bl_ hb; (try clear hb); (try clear hb2); (try clear hk); (try clear hi)))
    go_ret
    exact ⟨vv_, bz_⟩

end Go.Proofs.Ytnpbhippkcikoaa.PA
