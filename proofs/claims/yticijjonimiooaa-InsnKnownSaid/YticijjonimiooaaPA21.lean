import Derived.Test.YticijjonimiooaaWTab
import Derived.Test.YticijjonimiooaaWGuard
import Derived.Test.YticijjonimiooaaPA0
import Derived.Test.YticijjonimiooaaSq
import Derived.Test.YticijjonimiooaaPA13
import Derived.Test.YticijjonimiooaaPA17
import Derived.Test.YticijjonimiooaaPA20
namespace Go.Proofs.Yticijjonimiooaa.PA
open Go.RowKit Go.Proofs.YticijjonimiooaaW.PrintWords Go.Proofs.YticijjonimiooaaW.PrintLast Go.Proofs.YticijjonimiooaaW.PrintMore
attribute [local go_sem] max2_int min2_int max_two min_two max_three min_three max_four min_four
set_option linter.unusedVariables false
set_option linter.unusedSimpArgs false
mutual
def lockgateref02_Get.l0 : Nat → List Int → List (S40) → Int → Option ((List (S40)) × Int)
 | 0, _, _, _ => none
 | k + 1, x0, x4, x5 => if x5 < (x0.length : Int) then (if (x4.length : Int) ≥ 256 then (some (([] : List (S40)), 9)) else (if (wrap64 ((x0.length : Int) - x5)) < 8 then (lockgateref02_Get.j1 k x0 x4 x5 true) else (if 0 ≤ x5 then (if (rd x0 x5) = 24 then (lockgateref02_Get.j1 k x0 x4 x5 (decide ((wrap64 ((x0.length : Int) - x5)) < 16))) else (lockgateref02_Get.j1 k x0 x4 x5 false)) else (none)))) else (some (x4, 0))
def lockgateref02_Get.j1 : Nat → List Int → List (S40) → Int → Bool → Option ((List (S40)) × Int)
 | 0, _, _, _, _ => none
 | k + 1, x0, x4, x5, x35 => if x35 = true then (some (([] : List (S40)), 2)) else (if 0 ≤ x5 then (if x5 < (x0.length : Int) then (if 0 ≤ (wrap64 (x5 + 1)) then (if (wrap64 (x5 + 1)) < (x0.length : Int) then (if 0 ≤ (wrap64 (x5 + 2)) then (if (wrap64 (x5 + 2)) ≤ (wrap64 (x5 + 4)) then (if (wrap64 (x5 + 4)) ≤ (x0.length : Int) then ((lockgateref02_signed.f k ((x0.take ((wrap64 (x5 + 4)) : Int).toNat).drop ((wrap64 (x5 + 2)) : Int).toNat)).bind fun t364 => (if 0 ≤ (wrap64 (x5 + 4)) then (if (wrap64 (x5 + 4)) ≤ (wrap64 (x5 + 8)) then (if (wrap64 (x5 + 8)) ≤ (x0.length : Int) then ((lockgateref02_signed.f k ((x0.take ((wrap64 (x5 + 8)) : Int).toNat).drop ((wrap64 (x5 + 4)) : Int).toNat)).bind fun t366 => (if (wrap64 (rd x0 x5)) = 24 then (if 0 ≤ (wrap64 (x5 + 8)) then (if (wrap64 (x5 + 8)) < (x0.length : Int) then (if (rd x0 (wrap64 (x5 + 8))) = 0 then (if 0 ≤ (wrap64 (x5 + 9)) then (if (wrap64 (x5 + 9)) < (x0.length : Int) then (if (rd x0 (wrap64 (x5 + 9))) = 0 then (if 0 ≤ (wrap64 (x5 + 10)) then (if (wrap64 (x5 + 10)) < (x0.length : Int) then (if (rd x0 (wrap64 (x5 + 10))) = 0 then (if 0 ≤ (wrap64 (x5 + 11)) then (if (wrap64 (x5 + 11)) < (x0.length : Int) then (lockgateref02_Get.j2 k x0 x4 x5 ((rd x0 (wrap64 (x5 + 11))) != 0) (wrap64 (rd x0 x5)) (Int.tmod (wrap64 (rd x0 (wrap64 (x5 + 1)))) 16) (wrap64 (Int.tdiv (wrap64 (rd x0 (wrap64 (x5 + 1)))) 16)) t364 t366) else (none)) else (none)) else (lockgateref02_Get.j2 k x0 x4 x5 true (wrap64 (rd x0 x5)) (Int.tmod (wrap64 (rd x0 (wrap64 (x5 + 1)))) 16) (wrap64 (Int.tdiv (wrap64 (rd x0 (wrap64 (x5 + 1)))) 16)) t364 t366)) else (none)) else (none)) else (lockgateref02_Get.j2 k x0 x4 x5 true (wrap64 (rd x0 x5)) (Int.tmod (wrap64 (rd x0 (wrap64 (x5 + 1)))) 16) (wrap64 (Int.tdiv (wrap64 (rd x0 (wrap64 (x5 + 1)))) 16)) t364 t366)) else (none)) else (none)) else (lockgateref02_Get.j2 k x0 x4 x5 true (wrap64 (rd x0 x5)) (Int.tmod (wrap64 (rd x0 (wrap64 (x5 + 1)))) 16) (wrap64 (Int.tdiv (wrap64 (rd x0 (wrap64 (x5 + 1)))) 16)) t364 t366)) else (none)) else (none)) else (lockgateref02_Get.j4 k x0 x4 x5 (wrap64 (rd x0 x5)) (Int.tmod (wrap64 (rd x0 (wrap64 (x5 + 1)))) 16) (wrap64 (Int.tdiv (wrap64 (rd x0 (wrap64 (x5 + 1)))) 16)) t364 t366))) else (none)) else (none)) else (none))) else (none)) else (none)) else (none)) else (none)) else (none)) else (none)) else (none))
def lockgateref02_Get.j4 : Nat → List Int → List (S40) → Int → Int → Int → Int → Int → Int → Option ((List (S40)) × Int)
 | 0, _, _, _, _, _, _, _, _ => none
 | k + 1, x0, x4, x5, x368000, x368001, x368002, x368003, x368004 => (lockgateref02_Check.f k x368000 x368001 x368002 x368003 x368004).bind fun t381 => (if t381 = 0 then (if x4.length < 3518437208883 then ((lockgateref02_Size.f x368000 x368001 x368002 x368003 x368004).bind fun t385 => (lockgateref02_Get.l0 k x0 (x4 ++ [(⟨x368000, x368001, x368002, x368003, x368004⟩ : S40)]) (wrap64 (x5 + (wrap64 (8 * t385)))))) else (none)) else (some (([] : List (S40)), t381)))
def lockgateref02_Get.j2 : Nat → List Int → List (S40) → Int → Bool → Int → Int → Int → Int → Int → Option ((List (S40)) × Int)
 | 0, _, _, _, _, _, _, _, _, _ => none
 | k + 1, x0, x4, x5, x102, x368000, x368001, x368002, x368003, x368004 => if x102 = true then (some (([] : List (S40)), 6)) else (if 0 ≤ (wrap64 (x5 + 4)) then (if (wrap64 (x5 + 4)) ≤ (wrap64 (x5 + 8)) then (if (wrap64 (x5 + 8)) ≤ (x0.length : Int) then ((lockgatekit_CopyBytes.f k ((x0.take ((wrap64 (x5 + 8)) : Int).toNat).drop ((wrap64 (x5 + 4)) : Int).toNat)).bind fun t373 => (lockgateref02_Get.l1 k x0 x4 x5 t373 12 x368000 x368001 x368002 x368003 x368004)) else (none)) else (none)) else (none))
def lockgateref02_Get.l1 : Nat → List Int → List (S40) → Int → List Int → Int → Int → Int → Int → Int → Int → Option ((List (S40)) × Int)
 | 0, _, _, _, _, _, _, _, _, _, _ => none
 | k + 1, x0, x4, x5, x7, x8, x368000, x368001, x368002, x368003, x368004 => if x8 < 16 then (if 0 ≤ (wrap64 (x5 + x8)) then (if (wrap64 (x5 + x8)) < (x0.length : Int) then (if x7.length < 140737488355328 then (lockgateref02_Get.l1 k x0 x4 x5 (x7 ++ [rd x0 (wrap64 (x5 + x8))]) (wrap64 (x8 + 1)) x368000 x368001 x368002 x368003 x368004) else (none)) else (none)) else (none)) else ((lockgateref02_signed.f k x7).bind fun t380 => (lockgateref02_Get.j4 k x0 x4 x5 x368000 x368001 x368002 x368003 t380))
end
def lockgateref02_Get.f (k : Nat) (l0 : List Int) : Option ((List (S40)) × Int) := lockgateref02_Get.l0 k l0 ([] : List (S40)) 0
theorem lockgateref02_Get.mono_l : ∀ k, (∀ y0 y1 y2, LeO (lockgateref02_Get.l0 k y0 y1 y2) (lockgateref02_Get.l0 (k + 1) y0 y1 y2)) ∧ (∀ y0 y1 y2 y3, LeO (lockgateref02_Get.j1 k y0 y1 y2 y3) (lockgateref02_Get.j1 (k + 1) y0 y1 y2 y3)) ∧ (∀ y0 y1 y2 y3 y4 y5 y6 y7, LeO (lockgateref02_Get.j4 k y0 y1 y2 y3 y4 y5 y6 y7) (lockgateref02_Get.j4 (k + 1) y0 y1 y2 y3 y4 y5 y6 y7)) ∧ (∀ y0 y1 y2 y3 y4 y5 y6 y7 y8, LeO (lockgateref02_Get.j2 k y0 y1 y2 y3 y4 y5 y6 y7 y8) (lockgateref02_Get.j2 (k + 1) y0 y1 y2 y3 y4 y5 y6 y7 y8)) ∧ (∀ y0 y1 y2 y3 y4 y5 y6 y7 y8 y9, LeO (lockgateref02_Get.l1 k y0 y1 y2 y3 y4 y5 y6 y7 y8 y9) (lockgateref02_Get.l1 (k + 1) y0 y1 y2 y3 y4 y5 y6 y7 y8 y9))
 | 0 => ⟨fun _ _ _ r h => by simp [lockgateref02_Get.l0] at h, fun _ _ _ _ r h => by simp [lockgateref02_Get.j1] at h, fun _ _ _ _ _ _ _ _ r h => by simp [lockgateref02_Get.j4] at h, fun _ _ _ _ _ _ _ _ _ r h => by simp [lockgateref02_Get.j2] at h, fun _ _ _ _ _ _ _ _ _ _ r h => by simp [lockgateref02_Get.l1] at h⟩
 | k + 1 => by
  obtain ⟨ih0, ih1, ih2, ih3, ih4⟩ := lockgateref02_Get.mono_l k
  refine ⟨?_, ?_, ?_, ?_, ?_⟩
  ·intro y0 y1 y2
   unfold lockgateref02_Get.l0
   repeat' first
   | (with_reducible exact ih0 _ _ _)
   | (with_reducible exact ih1 _ _ _ _)
   | (with_reducible exact ih2 _ _ _ _ _ _ _ _)
   | (with_reducible exact ih3 _ _ _ _ _ _ _ _ _)
   | (with_reducible exact ih4 _ _ _ _ _ _ _ _ _ _)
   | (with_reducible exact lockgatekit_CopyBytes.mono _ _)
   | (with_reducible exact lockgateref02_Check.mono _ _ _ _ _ _)
   | (with_reducible exact lockgateref02_signed.mono _ _)
   | (with_reducible exact LeO.refl _)
   | (with_reducible exact LeO.none _)
   | (with_reducible refine LeO.ite ?_ ?_)
   | (with_reducible refine LeO.bind ?_ (fun _ => ?_))
   | exact ih0 _ _ _
   | exact ih1 _ _ _ _
   | exact ih2 _ _ _ _ _ _ _ _
   | exact ih3 _ _ _ _ _ _ _ _ _
   | exact ih4 _ _ _ _ _ _ _ _ _ _
   | exact lockgatekit_CopyBytes.mono _ _
   | exact lockgateref02_Check.mono _ _ _ _ _ _
   | exact lockgateref02_signed.mono _ _
   | exact LeO.none _
   | refine LeO.ite ?_ ?_
   | refine LeO.bind ?_ (fun _ => ?_)
  ·intro y0 y1 y2 y3
   unfold lockgateref02_Get.j1
   repeat' first
   | (with_reducible exact ih0 _ _ _)
   | (with_reducible exact ih1 _ _ _ _)
   | (with_reducible exact ih2 _ _ _ _ _ _ _ _)
   | (with_reducible exact ih3 _ _ _ _ _ _ _ _ _)
   | (with_reducible exact ih4 _ _ _ _ _ _ _ _ _ _)
   | (with_reducible exact lockgatekit_CopyBytes.mono _ _)
   | (with_reducible exact lockgateref02_Check.mono _ _ _ _ _ _)
   | (with_reducible exact lockgateref02_signed.mono _ _)
   | (with_reducible exact LeO.refl _)
   | (with_reducible exact LeO.none _)
   | (with_reducible refine LeO.ite ?_ ?_)
   | (with_reducible refine LeO.bind ?_ (fun _ => ?_))
   | exact ih0 _ _ _
   | exact ih1 _ _ _ _
   | exact ih2 _ _ _ _ _ _ _ _
   | exact ih3 _ _ _ _ _ _ _ _ _
   | exact ih4 _ _ _ _ _ _ _ _ _ _
   | exact lockgatekit_CopyBytes.mono _ _
   | exact lockgateref02_Check.mono _ _ _ _ _ _
   | exact lockgateref02_signed.mono _ _
   | exact LeO.none _
   | refine LeO.ite ?_ ?_
   | refine LeO.bind ?_ (fun _ => ?_)
  ·intro y0 y1 y2 y3 y4 y5 y6 y7
   unfold lockgateref02_Get.j4
   repeat' first
   | (with_reducible exact ih0 _ _ _)
   | (with_reducible exact ih1 _ _ _ _)
   | (with_reducible exact ih2 _ _ _ _ _ _ _ _)
   | (with_reducible exact ih3 _ _ _ _ _ _ _ _ _)
   | (with_reducible exact ih4 _ _ _ _ _ _ _ _ _ _)
   | (with_reducible exact lockgatekit_CopyBytes.mono _ _)
   | (with_reducible exact lockgateref02_Check.mono _ _ _ _ _ _)
   | (with_reducible exact lockgateref02_signed.mono _ _)
   | (with_reducible exact LeO.refl _)
   | (with_reducible exact LeO.none _)
   | (with_reducible refine LeO.ite ?_ ?_)
   | (with_reducible refine LeO.bind ?_ (fun _ => ?_))
   | exact ih0 _ _ _
   | exact ih1 _ _ _ _
   | exact ih2 _ _ _ _ _ _ _ _
   | exact ih3 _ _ _ _ _ _ _ _ _
   | exact ih4 _ _ _ _ _ _ _ _ _ _
   | exact lockgatekit_CopyBytes.mono _ _
   | exact lockgateref02_Check.mono _ _ _ _ _ _
   | exact lockgateref02_signed.mono _ _
   | exact LeO.none _
   | refine LeO.ite ?_ ?_
   | refine LeO.bind ?_ (fun _ => ?_)
  ·intro y0 y1 y2 y3 y4 y5 y6 y7 y8
   unfold lockgateref02_Get.j2
   repeat' first
   | (with_reducible exact ih0 _ _ _)
   | (with_reducible exact ih1 _ _ _ _)
   | (with_reducible exact ih2 _ _ _ _ _ _ _ _)
   | (with_reducible exact ih3 _ _ _ _ _ _ _ _ _)
   | (with_reducible exact ih4 _ _ _ _ _ _ _ _ _ _)
   | (with_reducible exact lockgatekit_CopyBytes.mono _ _)
   | (with_reducible exact lockgateref02_Check.mono _ _ _ _ _ _)
   | (with_reducible exact lockgateref02_signed.mono _ _)
   | (with_reducible exact LeO.refl _)
   | (with_reducible exact LeO.none _)
   | (with_reducible refine LeO.ite ?_ ?_)
   | (with_reducible refine LeO.bind ?_ (fun _ => ?_))
   | exact ih0 _ _ _
   | exact ih1 _ _ _ _
   | exact ih2 _ _ _ _ _ _ _ _
   | exact ih3 _ _ _ _ _ _ _ _ _
   | exact ih4 _ _ _ _ _ _ _ _ _ _
   | exact lockgatekit_CopyBytes.mono _ _
   | exact lockgateref02_Check.mono _ _ _ _ _ _
   | exact lockgateref02_signed.mono _ _
   | exact LeO.none _
   | refine LeO.ite ?_ ?_
   | refine LeO.bind ?_ (fun _ => ?_)
  intro y0 y1 y2 y3 y4 y5 y6 y7 y8 y9
  unfold lockgateref02_Get.l1
  repeat' first
  | (with_reducible exact ih0 _ _ _)
  | (with_reducible exact ih1 _ _ _ _)
  | (with_reducible exact ih2 _ _ _ _ _ _ _ _)
  | (with_reducible exact ih3 _ _ _ _ _ _ _ _ _)
  | (with_reducible exact ih4 _ _ _ _ _ _ _ _ _ _)
  | (with_reducible exact lockgatekit_CopyBytes.mono _ _)
  | (with_reducible exact lockgateref02_Check.mono _ _ _ _ _ _)
  | (with_reducible exact lockgateref02_signed.mono _ _)
  | (with_reducible exact LeO.refl _)
  | (with_reducible exact LeO.none _)
  | (with_reducible refine LeO.ite ?_ ?_)
  | (with_reducible refine LeO.bind ?_ (fun _ => ?_))
  | exact ih0 _ _ _
  | exact ih1 _ _ _ _
  | exact ih2 _ _ _ _ _ _ _ _
  | exact ih3 _ _ _ _ _ _ _ _ _
  | exact ih4 _ _ _ _ _ _ _ _ _ _
  | exact lockgatekit_CopyBytes.mono _ _
  | exact lockgateref02_Check.mono _ _ _ _ _ _
  | exact lockgateref02_signed.mono _ _
  | exact LeO.none _
  | refine LeO.ite ?_ ?_
  | refine LeO.bind ?_ (fun _ => ?_)
theorem lockgateref02_Get.mono : ∀ a0 k, LeO (lockgateref02_Get.f k a0) (lockgateref02_Get.f (k + 1) a0) := by
 intro a0 k
 obtain ⟨ih0, ih1, ih2, ih3, ih4⟩ := lockgateref02_Get.mono_l k
 unfold lockgateref02_Get.f
 repeat' first
  | (with_reducible exact ih0 _ _ _)
  | (with_reducible exact ih1 _ _ _ _)
  | (with_reducible exact ih2 _ _ _ _ _ _ _ _)
  | (with_reducible exact ih3 _ _ _ _ _ _ _ _ _)
  | (with_reducible exact ih4 _ _ _ _ _ _ _ _ _ _)
  | (with_reducible exact lockgatekit_CopyBytes.mono _ _)
  | (with_reducible exact lockgateref02_Check.mono _ _ _ _ _ _)
  | (with_reducible exact lockgateref02_signed.mono _ _)
  | (with_reducible exact LeO.refl _)
  | (with_reducible exact LeO.none _)
  | (with_reducible refine LeO.ite ?_ ?_)
  | (with_reducible refine LeO.bind ?_ (fun _ => ?_))
  | exact ih0 _ _ _
  | exact ih1 _ _ _ _
  | exact ih2 _ _ _ _ _ _ _ _
  | exact ih3 _ _ _ _ _ _ _ _ _
  | exact ih4 _ _ _ _ _ _ _ _ _ _
  | exact lockgatekit_CopyBytes.mono _ _
  | exact lockgateref02_Check.mono _ _ _ _ _ _
  | exact lockgateref02_signed.mono _ _
  | exact LeO.none _
  | refine LeO.ite ?_ ?_
  | refine LeO.bind ?_ (fun _ => ?_)
def lockgateref02_Get.T8 : Bool × List (List Nat × List Nat) := (true, [([], []), ([], []), ([0, 1], [0, 1]), ([2], [2]), ([3], [3]), ([], []), ([], []), ([6], [6]), ([5, 7], [5, 7]), ([8], [8]), ([9], [9]), ([10], [10]), ([], []), ([], []), ([13], [13]), ([12, 14], [12, 14]), ([15], [15]), ([16], [16]), ([17], [17]), ([], []), ([], []), ([20], [20]), ([], []), ([22], [22]), ([19, 21, 23], [19, 21, 23]), ([24], [24]), ([], []), ([], []), ([27], [27]), ([], []), ([29], [29]), ([26, 28, 30], [26, 28, 30]), ([31, 25], [31]), ([4, 11, 18, 25, 32], [4, 11, 18, 25, 32]), ([], []), ([34, 33, 32, 0, 1, 2, 3, 4, 5, 6, 7, 8, 9, 10, 11, 12, 13, 14, 15, 16, 17, 18, 19, 20, 21, 22, 23, 24, 25, 26, 27, 28, 29, 30, 31, 32, 33, 34], [33, 34])])
def lockgateref02_Get.B8 : List Nat := [0, 0, 3, 7, 15, 0, 0, 64, 224, 480, 992, 2016, 0, 0, 8192, 28672, 61440, 126976, 258048, 0, 0, 1048576, 0, 4194304, 16252928, 33030144, 0, 0, 134217728, 0, 536870912, 2080374784, 4294443008, 8589934591, 0, 34359738367]
theorem lockgateref02_Get.tab8 : rtab .any (opsOf Try.f20 8) = lockgateref02_Get.T8 := by kernel_rfl
theorem lockgateref02_Get.bits8 : waitsOk lockgateref02_Get.T8.2 lockgateref02_Get.B8 = true := by kernel_rfl
set_option maxHeartbeats 8000000 in
set_option maxRecDepth 100000 in
theorem lockgateref02_Get.calls (k : Nat) (A0 : Option Addr) (c0 : Nat) (l0 : List Int) (r1 : List (S40)) (r2 : Int) (w : World) (hr0 : Kd.C (Kd.int .u8) w A0 l0.length l0) (hc0 : l0.length ≤ c0) (h : lockgateref02_Get.f k l0 = some (r1, r2)) :
 Calls Try.prog 20 #[.slice A0 l0.length c0] w fun e w' => ∃ v0_ : Value, e = .returned (.tuple #[v0_, .int .i64 r2]) ∧ Kd.R k40 40 w' w.heap.size (fun _ => True) v0_ r1 ∧ Below w.heap.size w w' := by
 have hu40 := Try.underlying40
 have HR0 := Aside0.mk hr0
 have HC0 := Aside0.mk hc0
 clear hr0 hc0
 have HB := Aside0.mk (Below.refl w.heap.size w)
 have H : (lockgateref02_Get.l0 k l0 ([] : List (S40)) 0) = some (r1, r2) := h
 clear h
 have H' := Aside0.mk H
 clear H
 go_enter Try.func20, Try.ntmps20
 go_wp2
 go_loopg [4, 5] k (fun kq v4 v5 w' => ∃ (x4_1 : List (S40)) (x5_1 : Int), v5 = .int .i64 x5_1 ∧ Aside0 (lockgateref02_Get.l0 kq l0 x4_1 x5_1 = some (r1, r2)) ∧ Aside0 (kq ≤ k) ∧ Aside0 (Kd.R k40 40 w' w.heap.size (fun _ => True) v4 x4_1) ∧ Aside0 (Below w.heap.size w w'))
 case atStart => exact ⟨(([] : List (S40))), (0), vs_, H', ⟨Nat.le_refl _⟩, ⟨by first | exact Kd.R_nil _ _ _ _ _ | exact Kd.N_nil _ _ _ _ _ | exact Kd.V_nil _ _ _ _ _ | exact Kd.Q_nil _ _ _ _ _ | exact Kd.S_nil _ _ _ _ _⟩, ⟨bz_⟩⟩
 case round =>
  clear H'
  obtain ⟨x4_1, x5_1, rfl, HA, HK1, HO_4, HB⟩ := hrel
  cases gk with
  | zero => exact absurd HA.out (by simp [lockgateref02_Get.l0])
  | succ k1 =>
   have H := HA.out
   clear HA
   simp only [lockgateref02_Get.l0] at H
   by_cases c2 : x5_1 < (l0.length : Int)
   rotate_left
   ·rw [if_neg c2] at H
    have c2b0 : decide (x5_1 < (l0.length : Int)) = false := decide_eq_false c2
    clear c2
    simp only [Option.some.injEq, Prod.mk.injEq] at H
    obtain ⟨rfl, rfl⟩ := H
    go_wp2
    go_ret2
    exact ⟨_, by first | rfl | (simp [errW_none, errW_some] <;> rfl) | (simp [*, errW_none, errW_some] <;> rfl), by (with_reducible repeat (first | apply Kd.R_alloc | apply Kd.R_drewN | apply Kd.R_drew)); exact HO_4.out, bz_⟩
   rw [if_pos c2] at H
   have c2b0 : decide (x5_1 < (l0.length : Int)) = true := decide_eq_true c2
   clear c2
   by_cases c3 : (x4_1.length : Int) ≥ 256
   ·rw [if_pos c3] at H
    have c3b0 : decide (256 ≤ (x4_1.length : Int)) = true := decide_eq_true c3
    have c3b1 : decide (256 ≤ x4_1.length) = true := decide_eq_true (by omega)
    clear c3
    simp only [Option.some.injEq, Prod.mk.injEq] at H
    obtain ⟨rfl, rfl⟩ := H
    obtain ⟨Ao4, co4, eo4⟩ := Kd.R_slice HO_4.out
    subst eo4
    go_wp2
    go_ret2
    exact ⟨_, by first | rfl | (simp [errW_none, errW_some] <;> rfl) | (simp [*, errW_none, errW_some] <;> rfl), by first | exact Kd.R_nil _ _ _ _ _ | exact Kd.N_nil _ _ _ _ _ | exact Kd.V_nil _ _ _ _ _ | exact Kd.Q_nil _ _ _ _ _ | exact Kd.S_nil _ _ _ _ _, bz_⟩
   rw [if_neg c3] at H
   have c3b0 : decide (256 ≤ (x4_1.length : Int)) = false := decide_eq_false c3
   have c3b1 : decide (256 ≤ x4_1.length) = false := decide_eq_false (by omega)
   clear c3
   have HC5 := Aside0.mk H
   clear H
   obtain ⟨Ao6, co6, eo6⟩ := Kd.R_slice HO_4.out
   subst eo6
   go_upto_region 6 with (fail)
   go_cut [35] (fun v35 wc => ∃ (kq : Nat) (x35_4 : Bool), v35 = .bool x35_4 ∧ Aside0 (lockgateref02_Get.j1 kq l0 x4_1 x5_1 x35_4 = some (r1, r2)) ∧ Aside0 (kq ≤ k1) ∧ Aside0 (Kd.R k40 40 wc w.heap.size (fun _ => True) (.slice Ao6 x4_1.length co6) x4_1) ∧ Aside0 (Below w.heap.size w wc))
   case first =>
    have H := HC5.out
    clear HC5
    by_cases c7 : (wrap64 ((l0.length : Int) - x5_1)) < 8
    ·rw [if_pos c7] at H
     have c7b0 : decide ((wrap64 ((l0.length : Int) - x5_1)) < 8) = true := decide_eq_true c7
     clear c7
     (first | rw [c7b0] | (simp only [i64_w, i32_w]; rw [c7b0]) | skip)
     have H' := Aside0.mk H
     clear H
     go_wp2
     go_meet
     case rel => exact ⟨_, (true), vs_, H', ⟨by have := HK1.out; first | omega | exact Nat.le_refl _⟩, ⟨by (with_reducible repeat (first | apply Kd.R_alloc | apply Kd.R_drewN | apply Kd.R_drew)); exact HO_4.out⟩, ⟨bz_⟩⟩
    rw [if_neg c7] at H
    have c7b0 : decide ((wrap64 ((l0.length : Int) - x5_1)) < 8) = false := decide_eq_false c7
    clear c7
    (first | rw [c7b0] | (simp only [i64_w, i32_w]; rw [c7b0]) | skip)
    by_cases c8 : 0 ≤ x5_1
    rotate_left
    ·rw [if_neg c8] at H
     exact absurd H (by simp)
    rw [if_pos c8] at H
    have c8b0 : decide (0 ≤ x5_1) = true := decide_eq_true c8
    clear c8
    by_cases c9 : (rd l0 x5_1) = 24
    ·rw [if_pos c9] at H
     have c9b0 : ((rd l0 x5_1) == 24) = true := beq_iff_eq.mpr c9
     have c9b1 : ((rd l0 x5_1) != 24) = false := bne_eq_false_iff_eq.mpr c9
     clear c9
     have H' := Aside0.mk H
     clear H
     have p359 : 0 ≤ (x5_1 : Int) := of_decide_eq_true as_
     have q359 : x5_1 < (l0.length : Int) := of_decide_eq_true as_
     obtain ⟨ad359, e359, hx359_0⟩ := Kd.at_int HR0.out x5_1 p359 q359
     cases e359
     replace hx359_0 := (hc_ HB hx359_0 :)
     replace p359 := eq_true p359
     replace q359 := eq_true q359
     go_wp2
     go_meet
     case rel => exact ⟨_, (decide ((wrap64 ((l0.length : Int) - x5_1)) < 16)), vs_, H', ⟨by have := HK1.out; first | omega | exact Nat.le_refl _⟩, ⟨by (with_reducible repeat (first | apply Kd.R_alloc | apply Kd.R_drewN | apply Kd.R_drew)); exact HO_4.out⟩, ⟨bz_⟩⟩
    rw [if_neg c9] at H
    have c9b0 : ((rd l0 x5_1) == 24) = false := beq_eq_false_iff_ne.mpr c9
    have c9b1 : ((rd l0 x5_1) != 24) = true := bne_iff_ne.mpr c9
    have H' := Aside0.mk H
    clear H
    have p359 : 0 ≤ (x5_1 : Int) := of_decide_eq_true as_
    have q359 : x5_1 < (l0.length : Int) := of_decide_eq_true as_
    obtain ⟨ad359, e359, hx359_0⟩ := Kd.at_int HR0.out x5_1 p359 q359
    cases e359
    replace hx359_0 := (hc_ HB hx359_0 :)
    replace p359 := eq_true p359
    replace q359 := eq_true q359
    go_wp2
    go_meet
    case rel => exact ⟨_, (false), vs_, H', ⟨by have := HK1.out; first | omega | exact Nat.le_refl _⟩, ⟨by (with_reducible repeat (first | apply Kd.R_alloc | apply Kd.R_drewN | apply Kd.R_drew)); exact HO_4.out⟩, ⟨bz_⟩⟩
   case rest =>
    clear HC5
    try clear c2
    try clear c2b0
    try clear p2
    try clear c3
    try clear c3b0
    try clear c3b1
    try clear p3
    try clear q3
    try clear hx3
    try clear p6
    try clear c7
    try clear c7b0
    try clear c8
    try clear c8b0
    try clear c9
    try clear c9b0
    try clear c9b1
    try clear hx359_0
    try clear p359
    try clear q359
    obtain ⟨kq, x35_4, rfl, HA, HJ4, HO_4, HB⟩ := hcut
    cases kq with
    | zero => exact absurd HA.out (by simp [lockgateref02_Get.j1])
    | succ kj4 =>
     have H := HA.out
     clear HA
     simp only [lockgateref02_Get.j1] at H
     by_cases c10 : x35_4 = true
     ·subst c10
      have H1 := if1_ H
      clear H
      have H := H1
      clear H1
      simp only [Option.some.injEq, Prod.mk.injEq] at H
      obtain ⟨rfl, rfl⟩ := H
      go_wp2
      go_ret2
      exact ⟨_, by first | rfl | (simp [errW_none, errW_some] <;> rfl) | (simp [*, errW_none, errW_some] <;> rfl), by first | exact Kd.R_nil _ _ _ _ _ | exact Kd.N_nil _ _ _ _ _ | exact Kd.V_nil _ _ _ _ _ | exact Kd.Q_nil _ _ _ _ _ | exact Kd.S_nil _ _ _ _ _, bz_⟩
     replace c10 := Bool.eq_false_iff.mpr c10
     subst c10
     have H1 := if0_ H
     clear H
     have H := H1
     clear H1
     by_cases c11 : 0 ≤ x5_1
     rotate_left
     ·rw [if_neg c11] at H
      exact absurd H (by simp)
     rw [if_pos c11] at H
     have c11b0 : decide (0 ≤ x5_1) = true := decide_eq_true c11
     clear c11
     by_cases c12 : x5_1 < (l0.length : Int)
     rotate_left
     ·rw [if_neg c12] at H
      exact absurd H (by simp)
     rw [if_pos c12] at H
     have c12b0 : decide (x5_1 < (l0.length : Int)) = true := decide_eq_true c12
     clear c12
     obtain ⟨ji13, hji13⟩ : ∃ j_ : Int, (wrap64 (x5_1 + 1)) = j_ := ⟨_, rfl⟩
     replace H : (if 0 ≤ (ji13) then (if (ji13) < (l0.length : Int) then (if 0 ≤ (wrap64 (x5_1 + 2)) then (if (wrap64 (x5_1 + 2)) ≤ (wrap64 (x5_1 + 4)) then (if (wrap64 (x5_1 + 4)) ≤ (l0.length : Int) then ((lockgateref02_signed.f kj4 ((l0.take ((wrap64 (x5_1 + 4)) : Int).toNat).drop ((wrap64 (x5_1 + 2)) : Int).toNat)).bind fun t364 => (if 0 ≤ (wrap64 (x5_1 + 4)) then (if (wrap64 (x5_1 + 4)) ≤ (wrap64 (x5_1 + 8)) then (if (wrap64 (x5_1 + 8)) ≤ (l0.length : Int) then ((lockgateref02_signed.f kj4 ((l0.take ((wrap64 (x5_1 + 8)) : Int).toNat).drop ((wrap64 (x5_1 + 4)) : Int).toNat)).bind fun t366 => (if (wrap64 (rd l0 x5_1)) = 24 then (if 0 ≤ (wrap64 (x5_1 + 8)) then (if (wrap64 (x5_1 + 8)) < (l0.length : Int) then (if (rd l0 (wrap64 (x5_1 + 8))) = 0 then (if 0 ≤ (wrap64 (x5_1 + 9)) then (if (wrap64 (x5_1 + 9)) < (l0.length : Int) then (if (rd l0 (wrap64 (x5_1 + 9))) = 0 then (if 0 ≤ (wrap64 (x5_1 + 10)) then (if (wrap64 (x5_1 + 10)) < (l0.length : Int) then (if (rd l0 (wrap64 (x5_1 + 10))) = 0 then (if 0 ≤ (wrap64 (x5_1 + 11)) then (if (wrap64 (x5_1 + 11)) < (l0.length : Int) then (lockgateref02_Get.j2 kj4 l0 x4_1 x5_1 ((rd l0 (wrap64 (x5_1 + 11))) != 0) (wrap64 (rd l0 x5_1)) (Int.tmod (wrap64 (rd l0 (ji13))) 16) (wrap64 (Int.tdiv (wrap64 (rd l0 (ji13))) 16)) t364 t366) else (none)) else (none)) else (lockgateref02_Get.j2 kj4 l0 x4_1 x5_1 true (wrap64 (rd l0 x5_1)) (Int.tmod (wrap64 (rd l0 (ji13))) 16) (wrap64 (Int.tdiv (wrap64 (rd l0 (ji13))) 16)) t364 t366)) else (none)) else (none)) else (lockgateref02_Get.j2 kj4 l0 x4_1 x5_1 true (wrap64 (rd l0 x5_1)) (Int.tmod (wrap64 (rd l0 (ji13))) 16) (wrap64 (Int.tdiv (wrap64 (rd l0 (ji13))) 16)) t364 t366)) else (none)) else (none)) else (lockgateref02_Get.j2 kj4 l0 x4_1 x5_1 true (wrap64 (rd l0 x5_1)) (Int.tmod (wrap64 (rd l0 (ji13))) 16) (wrap64 (Int.tdiv (wrap64 (rd l0 (ji13))) 16)) t364 t366)) else (none)) else (none)) else (lockgateref02_Get.j4 kj4 l0 x4_1 x5_1 (wrap64 (rd l0 x5_1)) (Int.tmod (wrap64 (rd l0 (ji13))) 16) (wrap64 (Int.tdiv (wrap64 (rd l0 (ji13))) 16)) t364 t366))) else (none)) else (none)) else (none))) else (none)) else (none)) else (none)) else (none)) else (none)) = some (r1, r2) := by first | (rw [hji13] at H; exact H) | (simp only [hji13] at H ⊢; exact H)
     have hji13w : (IntKind.i64.wrap (x5_1 + 1)) = ji13 := (i64_w _).trans hji13
     by_cases c14 : 0 ≤ (ji13)
     rotate_left
     ·rw [if_neg c14] at H
      exact absurd H (by simp)
     rw [if_pos c14] at H
     have c14b0 : decide (0 ≤ (ji13)) = true := decide_eq_true c14
     clear c14
     by_cases c15 : (ji13) < (l0.length : Int)
     rotate_left
     ·rw [if_neg c15] at H
      exact absurd H (by simp)
     rw [if_pos c15] at H
     have c15b0 : decide ((ji13) < (l0.length : Int)) = true := decide_eq_true c15
     clear c15
     obtain ⟨ji16, hji16⟩ : ∃ j_ : Int, (wrap64 (x5_1 + 2)) = j_ := ⟨_, rfl⟩
     replace H : (if 0 ≤ (ji16) then (if (ji16) ≤ (wrap64 (x5_1 + 4)) then (if (wrap64 (x5_1 + 4)) ≤ (l0.length : Int) then ((lockgateref02_signed.f kj4 ((l0.take ((wrap64 (x5_1 + 4)) : Int).toNat).drop ((ji16) : Int).toNat)).bind fun t364 => (if 0 ≤ (wrap64 (x5_1 + 4)) then (if (wrap64 (x5_1 + 4)) ≤ (wrap64 (x5_1 + 8)) then (if (wrap64 (x5_1 + 8)) ≤ (l0.length : Int) then ((lockgateref02_signed.f kj4 ((l0.take ((wrap64 (x5_1 + 8)) : Int).toNat).drop ((wrap64 (x5_1 + 4)) : Int).toNat)).bind fun t366 => (if (wrap64 (rd l0 x5_1)) = 24 then (if 0 ≤ (wrap64 (x5_1 + 8)) then (if (wrap64 (x5_1 + 8)) < (l0.length : Int) then (if (rd l0 (wrap64 (x5_1 + 8))) = 0 then (if 0 ≤ (wrap64 (x5_1 + 9)) then (if (wrap64 (x5_1 + 9)) < (l0.length : Int) then (if (rd l0 (wrap64 (x5_1 + 9))) = 0 then (if 0 ≤ (wrap64 (x5_1 + 10)) then (if (wrap64 (x5_1 + 10)) < (l0.length : Int) then (if (rd l0 (wrap64 (x5_1 + 10))) = 0 then (if 0 ≤ (wrap64 (x5_1 + 11)) then (if (wrap64 (x5_1 + 11)) < (l0.length : Int) then (lockgateref02_Get.j2 kj4 l0 x4_1 x5_1 ((rd l0 (wrap64 (x5_1 + 11))) != 0) (wrap64 (rd l0 x5_1)) (Int.tmod (wrap64 (rd l0 (ji13))) 16) (wrap64 (Int.tdiv (wrap64 (rd l0 (ji13))) 16)) t364 t366) else (none)) else (none)) else (lockgateref02_Get.j2 kj4 l0 x4_1 x5_1 true (wrap64 (rd l0 x5_1)) (Int.tmod (wrap64 (rd l0 (ji13))) 16) (wrap64 (Int.tdiv (wrap64 (rd l0 (ji13))) 16)) t364 t366)) else (none)) else (none)) else (lockgateref02_Get.j2 kj4 l0 x4_1 x5_1 true (wrap64 (rd l0 x5_1)) (Int.tmod (wrap64 (rd l0 (ji13))) 16) (wrap64 (Int.tdiv (wrap64 (rd l0 (ji13))) 16)) t364 t366)) else (none)) else (none)) else (lockgateref02_Get.j2 kj4 l0 x4_1 x5_1 true (wrap64 (rd l0 x5_1)) (Int.tmod (wrap64 (rd l0 (ji13))) 16) (wrap64 (Int.tdiv (wrap64 (rd l0 (ji13))) 16)) t364 t366)) else (none)) else (none)) else (lockgateref02_Get.j4 kj4 l0 x4_1 x5_1 (wrap64 (rd l0 x5_1)) (Int.tmod (wrap64 (rd l0 (ji13))) 16) (wrap64 (Int.tdiv (wrap64 (rd l0 (ji13))) 16)) t364 t366))) else (none)) else (none)) else (none))) else (none)) else (none)) else (none)) = some (r1, r2) := by first | (rw [hji16] at H; exact H) | (simp only [hji16] at H ⊢; exact H)
     have hji16w : (IntKind.i64.wrap (x5_1 + 2)) = ji16 := (i64_w _).trans hji16
     by_cases c17 : 0 ≤ (ji16)
     rotate_left
     ·rw [if_neg c17] at H
      exact absurd H (by simp)
     rw [if_pos c17] at H
     have c17b0 := eq_true c17
     have c17b1 : decide (0 ≤ (ji16)) = true := decide_eq_true c17
     clear c17
     by_cases c18 : (ji16) ≤ (wrap64 (x5_1 + 4))
     rotate_left
     ·rw [if_neg c18] at H
      exact absurd H (by simp)
     rw [if_pos c18] at H
     have c18b0 := eq_true c18
     have c18b1 : decide ((ji16) ≤ (wrap64 (x5_1 + 4))) = true := decide_eq_true c18
     by_cases c19 : (wrap64 (x5_1 + 4)) ≤ (l0.length : Int)
     rotate_left
     ·rw [if_neg c19] at H
      exact absurd H (by simp)
     rw [if_pos c19] at H
     have c19b0 := eq_true c19
     have c19b1 : decide ((wrap64 (x5_1 + 4)) ≤ (l0.length : Int)) = true := decide_eq_true c19
     replace H := Option.bind_eq_some_iff.mp H
     obtain ⟨t364, A200, H⟩ := H
     (try dsimp only at H)
     have A20 := Aside0.mk A200
     clear A200
     obtain ⟨ji21, hji21⟩ : ∃ j_ : Int, (wrap64 (x5_1 + 4)) = j_ := ⟨_, rfl⟩
     replace H : (if 0 ≤ (ji21) then (if (ji21) ≤ (wrap64 (x5_1 + 8)) then (if (wrap64 (x5_1 + 8)) ≤ (l0.length : Int) then ((lockgateref02_signed.f kj4 ((l0.take ((wrap64 (x5_1 + 8)) : Int).toNat).drop ((ji21) : Int).toNat)).bind fun t366 => (if (wrap64 (rd l0 x5_1)) = 24 then (if 0 ≤ (wrap64 (x5_1 + 8)) then (if (wrap64 (x5_1 + 8)) < (l0.length : Int) then (if (rd l0 (wrap64 (x5_1 + 8))) = 0 then (if 0 ≤ (wrap64 (x5_1 + 9)) then (if (wrap64 (x5_1 + 9)) < (l0.length : Int) then (if (rd l0 (wrap64 (x5_1 + 9))) = 0 then (if 0 ≤ (wrap64 (x5_1 + 10)) then (if (wrap64 (x5_1 + 10)) < (l0.length : Int) then (if (rd l0 (wrap64 (x5_1 + 10))) = 0 then (if 0 ≤ (wrap64 (x5_1 + 11)) then (if (wrap64 (x5_1 + 11)) < (l0.length : Int) then (lockgateref02_Get.j2 kj4 l0 x4_1 x5_1 ((rd l0 (wrap64 (x5_1 + 11))) != 0) (wrap64 (rd l0 x5_1)) (Int.tmod (wrap64 (rd l0 (ji13))) 16) (wrap64 (Int.tdiv (wrap64 (rd l0 (ji13))) 16)) t364 t366) else (none)) else (none)) else (lockgateref02_Get.j2 kj4 l0 x4_1 x5_1 true (wrap64 (rd l0 x5_1)) (Int.tmod (wrap64 (rd l0 (ji13))) 16) (wrap64 (Int.tdiv (wrap64 (rd l0 (ji13))) 16)) t364 t366)) else (none)) else (none)) else (lockgateref02_Get.j2 kj4 l0 x4_1 x5_1 true (wrap64 (rd l0 x5_1)) (Int.tmod (wrap64 (rd l0 (ji13))) 16) (wrap64 (Int.tdiv (wrap64 (rd l0 (ji13))) 16)) t364 t366)) else (none)) else (none)) else (lockgateref02_Get.j2 kj4 l0 x4_1 x5_1 true (wrap64 (rd l0 x5_1)) (Int.tmod (wrap64 (rd l0 (ji13))) 16) (wrap64 (Int.tdiv (wrap64 (rd l0 (ji13))) 16)) t364 t366)) else (none)) else (none)) else (lockgateref02_Get.j4 kj4 l0 x4_1 x5_1 (wrap64 (rd l0 x5_1)) (Int.tmod (wrap64 (rd l0 (ji13))) 16) (wrap64 (Int.tdiv (wrap64 (rd l0 (ji13))) 16)) t364 t366))) else (none)) else (none)) else (none)) = some (r1, r2) := by first | (rw [hji21] at H; exact H) | (simp only [hji21] at H ⊢; exact H)
     (try rw [hji21] at c18b0)
     (try rw [hji21] at c18b1)
     (try rw [hji21] at c18)
     (try rw [hji21] at c19b0)
     (try rw [hji21] at c19b1)
     (try rw [hji21] at c19)
     (try rw [hji21] at A20)
     have hji21w : (IntKind.i64.wrap (x5_1 + 4)) = ji21 := (i64_w _).trans hji21
     by_cases c22 : 0 ≤ (ji21)
     rotate_left
     ·rw [if_neg c22] at H
      exact absurd H (by simp)
     rw [if_pos c22] at H
     have c22b0 := eq_true c22
     have c22b1 : decide (0 ≤ (ji21)) = true := decide_eq_true c22
     clear c22
     by_cases c23 : (ji21) ≤ (wrap64 (x5_1 + 8))
     rotate_left
     ·rw [if_neg c23] at H
      exact absurd H (by simp)
     rw [if_pos c23] at H
     have c23b0 := eq_true c23
     have c23b1 : decide ((ji21) ≤ (wrap64 (x5_1 + 8))) = true := decide_eq_true c23
     by_cases c24 : (wrap64 (x5_1 + 8)) ≤ (l0.length : Int)
     rotate_left
     ·rw [if_neg c24] at H
      exact absurd H (by simp)
     rw [if_pos c24] at H
     have c24b0 := eq_true c24
     have c24b1 : decide ((wrap64 (x5_1 + 8)) ≤ (l0.length : Int)) = true := decide_eq_true c24
     replace H := Option.bind_eq_some_iff.mp H
     obtain ⟨t366, A250, H⟩ := H
     (try dsimp only at H)
     have A25 := Aside0.mk A250
     clear A250
     have HC26 := Aside0.mk H
     clear H
     try go_wp2
     replace HO_4 := Aside0.mk (Kd.R_drew HO_4.out)
     replace HB := Aside0.mk (below_drew1 HB.out)
     have p360 : 0 ≤ (x5_1 : Int) := of_decide_eq_true as_
     have q360 : x5_1 < (l0.length : Int) := of_decide_eq_true as_
     obtain ⟨ad360, e360, hx360_0⟩ := Kd.at_int HR0.out x5_1 p360 q360
     have hw360_0 := hx360_0
     cases e360
     replace hx360_0 := (hc_ HB hx360_0 :)
     replace p360 := eq_true p360
     replace q360 := eq_true q360
     have p361 : 0 ≤ ((ji13) : Int) := of_decide_eq_true as_
     have q361 : (ji13) < (l0.length : Int) := of_decide_eq_true as_
     obtain ⟨ad361, e361, hx361_0⟩ := Kd.at_int HR0.out (ji13) p361 q361
     have hw361_0 := hx361_0
     obtain rfl : ad360 = ad361 := (by injection e361)
     replace hx361_0 := (hc_ HB hx361_0 :)
     replace p361 := eq_true p361
     replace q361 := eq_true q361
     have p362 : 0 ≤ ((ji13) : Int) := of_decide_eq_true as_
     have q362 : (ji13) < (l0.length : Int) := of_decide_eq_true as_
     obtain ⟨ad362, e362, hx362_0⟩ := Kd.at_int HR0.out (ji13) p362 q362
     have hw362_0 := hx362_0
     obtain rfl : ad360 = ad362 := (by injection e362)
     replace hx362_0 := (hc_ HB hx362_0 :)
     replace p362 := eq_true p362
     replace q362 := eq_true q362
     obtain ⟨i028, hi028, _, hsz28, _⟩ := info_parts info5
     obtain ⟨A28, hcut28, hA28, hC28⟩ := print_mid_of (P := Try.prog) (Value.int .u8) 0 25 5 .i64 .i64 Try.underlying25 hi028 hsz28 (some ad360) c0 l0 (ji16) (ji21) (of_decide_eq_true as_) (by first | omega | exact of_decide_eq_true as_) (of_decide_eq_true as_) HC0.out
     have HR363 := Aside0.mk (Kd.C_of_reads (h1 := fun _ => rfl) (hA28 _ (Kd.reads_of_C HR0.out)))
     have HC363 := Aside0.mk hC28
     clear hA28 hC28 hi028 hsz28
     obtain ⟨i029, hi029, _, hsz29, _⟩ := info_parts info5
     obtain ⟨A29, hcut29, hA29, hC29⟩ := print_mid_of (P := Try.prog) (Value.int .u8) 0 25 5 .i64 .i64 Try.underlying25 hi029 hsz29 (some ad360) c0 l0 (ji21) (wrap64 (x5_1 + 8)) (of_decide_eq_true as_) (by first | omega | exact of_decide_eq_true as_) (of_decide_eq_true as_) HC0.out
     have HR365 := Aside0.mk (Kd.C_of_reads (h1 := fun _ => rfl) (hA29 _ (Kd.reads_of_C HR0.out)))
     have HC365 := Aside0.mk hC29
     clear hA29 hC29 hi029 hsz29
     refine start_ (n := 36) (S := fun w' => w'.cell? (ad360.add (x5_1).toNat) = some (.int .u8 (rd l0 x5_1)) ∧ w'.cell? (ad360.add ((ji13)).toNat) = some (.int .u8 (rd l0 (ji13))) ∧ w'.cell? (ad360.add ((ji13)).toNat) = some (.int .u8 (rd l0 (ji13)))) (ds := []) #[Z,Z,Z,Z,Z,Z,Z,Z,Z,Z,Z,Z,Z,Z,Z,Z,Z,Z,Z,Z,Z,Z,Z,Z,Z,Z,Z,Z,Z,Z,Z,Z,Z,Z,Z,Z] (by kernel_rfl) rfl rfl ⟨(hc_ HB hw360_0 :), (hc_ HB hw361_0 :), (hc_ HB hw362_0 :)⟩ (fun hHeld => ?_); refine with_tabW lockgateref02_Get.tab8 lockgateref02_Get.bits8 (fun HT_ HW_ => ?_)
     generalize wc.drew = w27 at HO_4 HB HR363 HR365 hx360_0 hx361_0 hx362_0 hHeld ⊢
     refine pq_ 0 36 #[Y,Z,Z,Z,Z,Z,Z,Z,Z,Z,Z,Z,Z,Z,Z,Z,Z,Z,Z,Z,Z,Z,Z,Z,Z,Z,Z,Z,Z,Z,Z,Z,Z,Z,Z,Z] ?_
     refine pq_ 1 37 #[Y,Y,Z,Z,Z,Z,Z,Z,Z,Z,Z,Z,Z,Z,Z,Z,Z,Z,Z,Z,Z,Z,Z,Z,Z,Z,Z,Z,Z,Z,Z,Z,Z,Z,Z,Z] ?_
     refine pq_ 2 38 #[Y,Y,Y,Z,Z,Z,Z,Z,Z,Z,Z,Z,Z,Z,Z,Z,Z,Z,Z,Z,Z,Z,Z,Z,Z,Z,Z,Z,Z,Z,Z,Z,Z,Z,Z,Z] ?_
     refine pq_ 5 41 #[Y,Y,Y,Z,Z,Y,Z,Z,Z,Z,Z,Z,Z,Z,Z,Z,Z,Z,Z,Z,Z,Z,Z,Z,Z,Z,Z,Z,Z,Z,Z,Z,Z,Z,Z,Z] ?_
     refine pq_ 6 42 #[Y,Y,Y,Z,Z,Y,Y,Z,Z,Z,Z,Z,Z,Z,Z,Z,Z,Z,Z,Z,Z,Z,Z,Z,Z,Z,Z,Z,Z,Z,Z,Z,Z,Z,Z,Z] ?_
     refine pq_ 7 43 #[Y,Y,Y,Z,Z,Y,Y,Y,Z,Z,Z,Z,Z,Z,Z,Z,Z,Z,Z,Z,Z,Z,Z,Z,Z,Z,Z,Z,Z,Z,Z,Z,Z,Z,Z,Z] ?_
     refine pq_ 8 44 #[Y,Y,Y,Z,Z,Y,Y,Y,Y,Z,Z,Z,Z,Z,Z,Z,Z,Z,Z,Z,Z,Z,Z,Z,Z,Z,Z,Z,Z,Z,Z,Z,Z,Z,Z,Z] ?_
     refine pq_ 12 48 #[Y,Y,Y,Z,Z,Y,Y,Y,Y,Z,Z,Z,Y,Z,Z,Z,Z,Z,Z,Z,Z,Z,Z,Z,Z,Z,Z,Z,Z,Z,Z,Z,Z,Z,Z,Z] ?_
     refine pq_ 13 49 #[Y,Y,Y,Z,Z,Y,Y,Y,Y,Z,Z,Z,Y,Y,Z,Z,Z,Z,Z,Z,Z,Z,Z,Z,Z,Z,Z,Z,Z,Z,Z,Z,Z,Z,Z,Z] ?_
     refine pq_ 14 50 #[Y,Y,Y,Z,Z,Y,Y,Y,Y,Z,Z,Z,Y,Y,Y,Z,Z,Z,Z,Z,Z,Z,Z,Z,Z,Z,Z,Z,Z,Z,Z,Z,Z,Z,Z,Z] ?_
     refine pq_ 15 51 #[Y,Y,Y,Z,Z,Y,Y,Y,Y,Z,Z,Z,Y,Y,Y,Y,Z,Z,Z,Z,Z,Z,Z,Z,Z,Z,Z,Z,Z,Z,Z,Z,Z,Z,Z,Z] ?_
     refine pq_ 19 55 #[Y,Y,Y,Z,Z,Y,Y,Y,Y,Z,Z,Z,Y,Y,Y,Y,Z,Z,Z,Y,Z,Z,Z,Z,Z,Z,Z,Z,Z,Z,Z,Z,Z,Z,Z,Z] ?_
     refine pq_ 20 56 #[Y,Y,Y,Z,Z,Y,Y,Y,Y,Z,Z,Z,Y,Y,Y,Y,Z,Z,Z,Y,Y,Z,Z,Z,Z,Z,Z,Z,Z,Z,Z,Z,Z,Z,Z,Z] ?_
     refine pq_ 21 57 #[Y,Y,Y,Z,Z,Y,Y,Y,Y,Z,Z,Z,Y,Y,Y,Y,Z,Z,Z,Y,Y,Y,Z,Z,Z,Z,Z,Z,Z,Z,Z,Z,Z,Z,Z,Z] ?_
     refine pq_ 22 58 #[Y,Y,Y,Z,Z,Y,Y,Y,Y,Z,Z,Z,Y,Y,Y,Y,Z,Z,Z,Y,Y,Y,Y,Z,Z,Z,Z,Z,Z,Z,Z,Z,Z,Z,Z,Z] ?_
     refine pq_ 23 59 #[Y,Y,Y,Z,Z,Y,Y,Y,Y,Z,Z,Z,Y,Y,Y,Y,Z,Z,Z,Y,Y,Y,Y,Y,Z,Z,Z,Z,Z,Z,Z,Z,Z,Z,Z,Z] ?_
     refine pq_ 24 60 #[Y,Y,Y,Z,Z,Y,Y,Y,Y,Z,Z,Z,Y,Y,Y,Y,Z,Z,Z,Y,Y,Y,Y,Y,Y,Z,Z,Z,Z,Z,Z,Z,Z,Z,Z,Z] ?_
     refine pq_ 26 62 #[Y,Y,Y,Z,Z,Y,Y,Y,Y,Z,Z,Z,Y,Y,Y,Y,Z,Z,Z,Y,Y,Y,Y,Y,Y,Z,Y,Z,Z,Z,Z,Z,Z,Z,Z,Z] ?_
     refine pq_ 27 63 #[Y,Y,Y,Z,Z,Y,Y,Y,Y,Z,Z,Z,Y,Y,Y,Y,Z,Z,Z,Y,Y,Y,Y,Y,Y,Z,Y,Y,Z,Z,Z,Z,Z,Z,Z,Z] ?_
     refine pq_ 28 64 #[Y,Y,Y,Z,Z,Y,Y,Y,Y,Z,Z,Z,Y,Y,Y,Y,Z,Z,Z,Y,Y,Y,Y,Y,Y,Z,Y,Y,Y,Z,Z,Z,Z,Z,Z,Z] ?_
     refine pq_ 29 65 #[Y,Y,Y,Z,Z,Y,Y,Y,Y,Z,Z,Z,Y,Y,Y,Y,Z,Z,Z,Y,Y,Y,Y,Y,Y,Z,Y,Y,Y,Y,Z,Z,Z,Z,Z,Z] ?_
     refine pq_ 30 66 #[Y,Y,Y,Z,Z,Y,Y,Y,Y,Z,Z,Z,Y,Y,Y,Y,Z,Z,Z,Y,Y,Y,Y,Y,Y,Z,Y,Y,Y,Y,Y,Z,Z,Z,Z,Z] ?_
     refine pq_ 31 67 #[Y,Y,Y,Z,Z,Y,Y,Y,Y,Z,Z,Z,Y,Y,Y,Y,Z,Z,Z,Y,Y,Y,Y,Y,Y,Z,Y,Y,Y,Y,Y,Y,Z,Z,Z,Z] ?_
     refine tq1_ 3 39 #[Y,Y,Y,Y,Z,Y,Y,Y,Y,Z,Z,Z,Y,Y,Y,Y,Z,Z,Z,Y,Y,Y,Y,Y,Y,Z,Y,Y,Y,Y,Y,Y,Z,Z,Z,Z] hHeld ?_
     refine pq_ 4 40 #[Y,Y,Y,Y,Y,Y,Y,Y,Y,Z,Z,Z,Y,Y,Y,Y,Z,Z,Z,Y,Y,Y,Y,Y,Y,Z,Y,Y,Y,Y,Y,Y,Z,Z,Z,Z] ?_
     refine tq1_ 9 45 #[Y,Y,Y,Y,Y,Y,Y,Y,Y,Y,Z,Z,Y,Y,Y,Y,Z,Z,Z,Y,Y,Y,Y,Y,Y,Z,Y,Y,Y,Y,Y,Y,Z,Z,Z,Z] hHeld ?_
     refine pq_ 10 46 #[Y,Y,Y,Y,Y,Y,Y,Y,Y,Y,Y,Z,Y,Y,Y,Y,Z,Z,Z,Y,Y,Y,Y,Y,Y,Z,Y,Y,Y,Y,Y,Y,Z,Z,Z,Z] ?_
     refine pq_ 11 47 #[Y,Y,Y,Y,Y,Y,Y,Y,Y,Y,Y,Y,Y,Y,Y,Y,Z,Z,Z,Y,Y,Y,Y,Y,Y,Z,Y,Y,Y,Y,Y,Y,Z,Z,Z,Z] ?_
     refine tq1_ 16 52 #[Y,Y,Y,Y,Y,Y,Y,Y,Y,Y,Y,Y,Y,Y,Y,Y,Y,Z,Z,Y,Y,Y,Y,Y,Y,Z,Y,Y,Y,Y,Y,Y,Z,Z,Z,Z] hHeld ?_
     refine pq_ 17 53 #[Y,Y,Y,Y,Y,Y,Y,Y,Y,Y,Y,Y,Y,Y,Y,Y,Y,Y,Z,Y,Y,Y,Y,Y,Y,Z,Y,Y,Y,Y,Y,Y,Z,Z,Z,Z] ?_
     refine pq_ 18 54 #[Y,Y,Y,Y,Y,Y,Y,Y,Y,Y,Y,Y,Y,Y,Y,Y,Y,Y,Y,Y,Y,Y,Y,Y,Y,Z,Y,Y,Y,Y,Y,Y,Z,Z,Z,Z] ?_
     refine join_ (σ := Nat) 1 #[Y,Y,Y,Y,Y,Y,Y,Y,Y,Y,Y,Y,Y,Y,Y,Y,Y,Y,Y,Y,Y,Y,Y,Y,Y,Y,Y,Y,Y,Y,Y,Y,Y,Y,Y,Z] (fun s_ => [(61, .int .i64 t364), (68, .int .i64 t366), (6, .pointer (some ⟨s_, 0, none⟩)), (69, .agg #[.int .i64 (wrap64 (rd l0 x5_1)), .int .i64 (Int.tmod (wrap64 (rd l0 (ji13))) 16), .int .i64 (wrap64 (Int.tdiv (wrap64 (rd l0 (ji13))) 16)), .int .i64 t364, .int .i64 t366])]) (fun s_ w' => (w'.cell? (ad360.add (x5_1).toNat) = some (.int .u8 (rd l0 x5_1)) ∧ w'.cell? (ad360.add ((ji13)).toNat) = some (.int .u8 (rd l0 (ji13))) ∧ w'.cell? (ad360.add ((ji13)).toNat) = some (.int .u8 (rd l0 (ji13)))) ∧ (Kd.R k40 40 w' w.heap.size (fun k_ => k_ ≠ s_) (.slice Ao6 x4_1.length co6) x4_1) ∧ (w'.heap[s_]? = some (.cells #[.int .i64 0, .int .i64 0, .int .i64 0, .int .i64 0, .int .i64 0] 40 (0, 0))) ∧ (w.heap.size ≤ s_) ∧ (w.heap.size ≤ s_) ∧ (Below w.heap.size w w')) ?_ ?_
     rotate_left
     ·intro hCont
      refine two_ (i := 25) (j := 34) (Ni := some 61) (Nj := some 6) #[Y,Y,Y,Y,Y,Y,Y,Y,Y,Y,Y,Y,Y,Y,Y,Y,Y,Y,Y,Y,Y,Y,Y,Y,Y,Y,Y,Y,Y,Y,Y,Y,Z,Z,Z,Z] #[Y,Y,Y,Y,Y,Y,Y,Y,Y,Y,Y,Y,Y,Y,Y,Y,Y,Y,Y,Y,Y,Y,Y,Y,Y,Z,Y,Y,Y,Y,Y,Y,Z,Z,Y,Z] rfl rfl rfl rfl (two_of HT_.out (by kernel_rfl)) (by decide) (by decide) (fun K hK => ?_) (fun K hK => ?_)
      ·skip
       refine goes_ Try.func38 (by kernel_rfl) rfl #[.slice A28 ((l0.take ((ji21) : Int).toNat).drop ((ji16) : Int).toNat).length (c0 - (ji16).toNat)] (by rfl) rfl rfl (by (try simp only [List.map_toArray, List.map_cons, List.map_nil]); first | done | (rw [show ((l0.take ((ji21) : Int).toNat).drop ((ji16) : Int).toNat).length = ((ji21).toNat - (ji16).toNat) from (by rw [List.length_drop, List.length_take]; have h_ : ((ji21) : Int) ≤ (l0.length : Int) := of_decide_eq_true as_; omega)] <;> rfl) | (simp only [hji16, hji21]; rfl) | rfl | (simp only [List.length_drop, List.length_take]; rfl)) ?_
       with_reducible refine (lockgateref02_signed.calls kj4 _ _ ((l0.take ((ji21) : Int).toNat).drop ((ji16) : Int).toNat) t364 _ ?side1 ?side2 A20.out).mono ?_
       (case side1 => exact ca_ (Kd.C_below HR363.out HB.out))
       (case side2 => exact HC363.out)
       rintro e w' ⟨rfl, ⟨nd, rfl⟩⟩
       refine ⟨_, rfl, ?_⟩
       refine hK.out _ _ ⟨(hc_ HB hw360_0 :), (hc_ HB hw361_0 :), (hc_ HB hw362_0 :)⟩ (fun hHeld => ?_)
       clear hK K
       refine norm_ (a' := ?_) ?_ ?_
       rotate_left
       ·show Act.put _ (some 61) _ = _
        simp only [Act.put, s1_, s2_, s3_, i64_w, i32_w]
        rfl
       refine two_ (i := 32) (j := 34) (Ni := some 68) (Nj := some 6) #[Y,Y,Y,Y,Y,Y,Y,Y,Y,Y,Y,Y,Y,Y,Y,Y,Y,Y,Y,Y,Y,Y,Y,Y,Y,Y,Y,Y,Y,Y,Y,Y,Y,Z,Z,Z] #[Y,Y,Y,Y,Y,Y,Y,Y,Y,Y,Y,Y,Y,Y,Y,Y,Y,Y,Y,Y,Y,Y,Y,Y,Y,Y,Y,Y,Y,Y,Y,Y,Z,Z,Y,Z] rfl rfl rfl rfl (two_of HT_.out (by kernel_rfl)) (by decide) (by decide) (fun K hK => ?_) (fun K hK => ?_)
       ·skip
        refine goes_ Try.func38 (by kernel_rfl) rfl #[.slice A29 ((l0.take ((wrap64 (x5_1 + 8)) : Int).toNat).drop ((ji21) : Int).toNat).length (c0 - (ji21).toNat)] (by rfl) rfl rfl (by (try simp only [List.map_toArray, List.map_cons, List.map_nil]); first | done | (rw [show ((l0.take ((wrap64 (x5_1 + 8)) : Int).toNat).drop ((ji21) : Int).toNat).length = ((wrap64 (x5_1 + 8)).toNat - (ji21).toNat) from (by rw [List.length_drop, List.length_take]; have h_ : ((wrap64 (x5_1 + 8)) : Int) ≤ (l0.length : Int) := of_decide_eq_true as_; omega)] <;> rfl) | (simp only [hji21]; rfl) | rfl | (simp only [List.length_drop, List.length_take]; rfl)) ?_
        with_reducible refine (lockgateref02_signed.calls kj4 _ _ ((l0.take ((wrap64 (x5_1 + 8)) : Int).toNat).drop ((ji21) : Int).toNat) t366 _ ?side1 ?side2 A25.out).mono ?_
        (case side1 => exact ca_ (Kd.C_below HR365.out bz_))
        (case side2 => exact HC365.out)
        rintro e w' ⟨rfl, ⟨nd, rfl⟩⟩
        refine ⟨_, rfl, ?_⟩
        refine hK.out _ _ ⟨(hc_ HB hw360_0 :), (hc_ HB hw361_0 :), (hc_ HB hw362_0 :)⟩ (fun hHeld => ?_)
        clear hK K
        refine norm_ (a' := ?_) ?_ ?_
        rotate_left
        ·show Act.put _ (some 68) _ = _
         simp only [Act.put, s1_, s2_, s3_, i64_w, i32_w]
         rfl
        refine pq_ 33 69 #[Y,Y,Y,Y,Y,Y,Y,Y,Y,Y,Y,Y,Y,Y,Y,Y,Y,Y,Y,Y,Y,Y,Y,Y,Y,Y,Y,Y,Y,Y,Y,Y,Y,Y,Z,Z] ?_
        refine one_ (i := 34) (N := some 6) #[Y,Y,Y,Y,Y,Y,Y,Y,Y,Y,Y,Y,Y,Y,Y,Y,Y,Y,Y,Y,Y,Y,Y,Y,Y,Y,Y,Y,Y,Y,Y,Y,Y,Y,Y,Z] rfl rfl (one_of HT_.out (by kernel_rfl)) (by decide) (fun K hK => ?_)
        refine box_step ?hg (N := 6) ?hd (cs := #[.int .i64 0, .int .i64 0, .int .i64 0, .int .i64 0, .int .i64 0]) (t := 40) ?hr ?_; (case hd => rfl); (case hg => rfl); (case hr => first | (go_simp; done) | (go_simp; rfl))
        intro gb367 hg w30 hbox hb
        have BK367 := Aside0.mk (hbox)
        have GW367 := bg_ hg
        have GE367 := GW367
        replace HO_4 := Aside0.mk (Kd.R_below (Kd.R_elderB (ra_ HO_4.out) gb367 (Nat.le_of_eq hg.symm)) hb)
        replace HB := bl_ hb
        clear hb hbox hg
        refine hK.out _ _ ⟨(hc_ HB hw360_0 :), (hc_ HB hw361_0 :), (hc_ HB hw362_0 :)⟩ (fun hHeld => ?_)
        clear hK K
        refine norm_ (a' := ?_) ?_ ?_
        rotate_left
        ·show Act.put _ (some 6) _ = _
         simp only [Act.put, s1_, s2_, s3_, i64_w, i32_w]
         rfl
        exact norm_ (by simp only [putAll, Act.put, List.setIfInBounds_toArray, List.set_cons_zero, List.set_cons_succ]) (hCont (gb367) _ ⟨hHeld, (ra_ (Kd.R_mono HO_4.out (fun _ hk => hk.2))), bk_, GW367.out, GE367.out, bz_⟩)
       refine box_step ?hg (N := 6) ?hd (cs := #[.int .i64 0, .int .i64 0, .int .i64 0, .int .i64 0, .int .i64 0]) (t := 40) ?hr ?_; (case hd => rfl); (case hg => rfl); (case hr => first | (go_simp; done) | (go_simp; rfl))
       intro gb367 hg w30 hbox hb
       have BK367 := Aside0.mk (hbox)
       have GW367 := bg_ hg
       have GE367 := GW367
       replace HO_4 := Aside0.mk (Kd.R_below (Kd.R_elderB (ra_ HO_4.out) gb367 (Nat.le_of_eq hg.symm)) hb)
       replace HB := bl_ hb
       clear hb hbox hg
       refine hK.out _ _ ⟨(hc_ HB hw360_0 :), (hc_ HB hw361_0 :), (hc_ HB hw362_0 :)⟩ (fun hHeld => ?_)
       clear hK K
       refine norm_ (a' := ?_) ?_ ?_
       rotate_left
       ·show Act.put _ (some 6) _ = _
        simp only [Act.put, s1_, s2_, s3_, i64_w, i32_w]
        rfl
       refine one_ (i := 32) (N := some 68) #[Y,Y,Y,Y,Y,Y,Y,Y,Y,Y,Y,Y,Y,Y,Y,Y,Y,Y,Y,Y,Y,Y,Y,Y,Y,Y,Y,Y,Y,Y,Y,Y,Y,Z,Y,Z] rfl rfl (one_of HT_.out (by kernel_rfl)) (by decide) (fun K hK => ?_)
       refine goes_ Try.func38 (by kernel_rfl) rfl #[.slice A29 ((l0.take ((wrap64 (x5_1 + 8)) : Int).toNat).drop ((ji21) : Int).toNat).length (c0 - (ji21).toNat)] (by rfl) rfl rfl (by (try simp only [List.map_toArray, List.map_cons, List.map_nil]); first | done | (rw [show ((l0.take ((wrap64 (x5_1 + 8)) : Int).toNat).drop ((ji21) : Int).toNat).length = ((wrap64 (x5_1 + 8)).toNat - (ji21).toNat) from (by rw [List.length_drop, List.length_take]; have h_ : ((wrap64 (x5_1 + 8)) : Int) ≤ (l0.length : Int) := of_decide_eq_true as_; omega)] <;> rfl) | (simp only [hji21]; rfl) | rfl | (simp only [List.length_drop, List.length_take]; rfl)) ?_
       with_reducible refine (lockgateref02_signed.calls kj4 _ _ ((l0.take ((wrap64 (x5_1 + 8)) : Int).toNat).drop ((ji21) : Int).toNat) t366 _ ?side1 ?side2 A25.out).mono ?_
       (case side1 => exact ca_ (Kd.C_below HR365.out HB.out))
       (case side2 => exact HC365.out)
       rintro e w' ⟨rfl, ⟨nd, rfl⟩⟩
       refine ⟨_, rfl, ?_⟩
       refine hK.out _ _ ⟨(hc_ HB hw360_0 :), (hc_ HB hw361_0 :), (hc_ HB hw362_0 :)⟩ (fun hHeld => ?_)
       clear hK K
       refine norm_ (a' := ?_) ?_ ?_
       rotate_left
       ·show Act.put _ (some 68) _ = _
        simp only [Act.put, s1_, s2_, s3_, i64_w, i32_w]
        rfl
       refine pq_ 33 69 #[Y,Y,Y,Y,Y,Y,Y,Y,Y,Y,Y,Y,Y,Y,Y,Y,Y,Y,Y,Y,Y,Y,Y,Y,Y,Y,Y,Y,Y,Y,Y,Y,Y,Y,Y,Z] ?_
       exact norm_ (by simp only [putAll, Act.put, List.setIfInBounds_toArray, List.set_cons_zero, List.set_cons_succ]) (hCont (gb367) _ ⟨hHeld, (ra_ (Kd.R_mono HO_4.out (fun _ hk => hk.2))), bk_, GW367.out, GE367.out, bz_⟩)
      refine box_step ?hg (N := 6) ?hd (cs := #[.int .i64 0, .int .i64 0, .int .i64 0, .int .i64 0, .int .i64 0]) (t := 40) ?hr ?_; (case hd => rfl); (case hg => rfl); (case hr => first | (go_simp; done) | (go_simp; rfl))
      intro gb367 hg w30 hbox hb
      have BK367 := Aside0.mk (hbox)
      have GW367 := bg_ hg
      have GE367 := GW367
      replace HO_4 := Aside0.mk (Kd.R_below (Kd.R_elderB (ra_ HO_4.out) gb367 (Nat.le_of_eq hg.symm)) hb)
      replace HB := bl_ hb
      clear hb hbox hg
      refine hK.out _ _ ⟨(hc_ HB hw360_0 :), (hc_ HB hw361_0 :), (hc_ HB hw362_0 :)⟩ (fun hHeld => ?_)
      clear hK K
      refine norm_ (a' := ?_) ?_ ?_
      rotate_left
      ·show Act.put _ (some 6) _ = _
       simp only [Act.put, s1_, s2_, s3_, i64_w, i32_w]
       rfl
      refine one_ (i := 25) (N := some 61) #[Y,Y,Y,Y,Y,Y,Y,Y,Y,Y,Y,Y,Y,Y,Y,Y,Y,Y,Y,Y,Y,Y,Y,Y,Y,Y,Y,Y,Y,Y,Y,Y,Z,Z,Y,Z] rfl rfl (one_of HT_.out (by kernel_rfl)) (by decide) (fun K hK => ?_)
      refine goes_ Try.func38 (by kernel_rfl) rfl #[.slice A28 ((l0.take ((ji21) : Int).toNat).drop ((ji16) : Int).toNat).length (c0 - (ji16).toNat)] (by rfl) rfl rfl (by (try simp only [List.map_toArray, List.map_cons, List.map_nil]); first | done | (rw [show ((l0.take ((ji21) : Int).toNat).drop ((ji16) : Int).toNat).length = ((ji21).toNat - (ji16).toNat) from (by rw [List.length_drop, List.length_take]; have h_ : ((ji21) : Int) ≤ (l0.length : Int) := of_decide_eq_true as_; omega)] <;> rfl) | (simp only [hji16, hji21]; rfl) | rfl | (simp only [List.length_drop, List.length_take]; rfl)) ?_
      with_reducible refine (lockgateref02_signed.calls kj4 _ _ ((l0.take ((ji21) : Int).toNat).drop ((ji16) : Int).toNat) t364 _ ?side1 ?side2 A20.out).mono ?_
      (case side1 => exact ca_ (Kd.C_below HR363.out HB.out))
      (case side2 => exact HC363.out)
      rintro e w' ⟨rfl, ⟨nd, rfl⟩⟩
      refine ⟨_, rfl, ?_⟩
      refine hK.out _ _ ⟨(hc_ HB hw360_0 :), (hc_ HB hw361_0 :), (hc_ HB hw362_0 :)⟩ (fun hHeld => ?_)
      clear hK K
      refine norm_ (a' := ?_) ?_ ?_
      rotate_left
      ·show Act.put _ (some 61) _ = _
       simp only [Act.put, s1_, s2_, s3_, i64_w, i32_w]
       rfl
      refine one_ (i := 32) (N := some 68) #[Y,Y,Y,Y,Y,Y,Y,Y,Y,Y,Y,Y,Y,Y,Y,Y,Y,Y,Y,Y,Y,Y,Y,Y,Y,Y,Y,Y,Y,Y,Y,Y,Y,Z,Y,Z] rfl rfl (one_of HT_.out (by kernel_rfl)) (by decide) (fun K hK => ?_)
      refine goes_ Try.func38 (by kernel_rfl) rfl #[.slice A29 ((l0.take ((wrap64 (x5_1 + 8)) : Int).toNat).drop ((ji21) : Int).toNat).length (c0 - (ji21).toNat)] (by rfl) rfl rfl (by (try simp only [List.map_toArray, List.map_cons, List.map_nil]); first | done | (rw [show ((l0.take ((wrap64 (x5_1 + 8)) : Int).toNat).drop ((ji21) : Int).toNat).length = ((wrap64 (x5_1 + 8)).toNat - (ji21).toNat) from (by rw [List.length_drop, List.length_take]; have h_ : ((wrap64 (x5_1 + 8)) : Int) ≤ (l0.length : Int) := of_decide_eq_true as_; omega)] <;> rfl) | (simp only [hji21]; rfl) | rfl | (simp only [List.length_drop, List.length_take]; rfl)) ?_
      with_reducible refine (lockgateref02_signed.calls kj4 _ _ ((l0.take ((wrap64 (x5_1 + 8)) : Int).toNat).drop ((ji21) : Int).toNat) t366 _ ?side1 ?side2 A25.out).mono ?_
      (case side1 => exact ca_ (Kd.C_below HR365.out bz_))
      (case side2 => exact HC365.out)
      rintro e w' ⟨rfl, ⟨nd, rfl⟩⟩
      refine ⟨_, rfl, ?_⟩
      refine hK.out _ _ ⟨(hc_ HB hw360_0 :), (hc_ HB hw361_0 :), (hc_ HB hw362_0 :)⟩ (fun hHeld => ?_)
      clear hK K
      refine norm_ (a' := ?_) ?_ ?_
      rotate_left
      ·show Act.put _ (some 68) _ = _
       simp only [Act.put, s1_, s2_, s3_, i64_w, i32_w]
       rfl
      refine pq_ 33 69 #[Y,Y,Y,Y,Y,Y,Y,Y,Y,Y,Y,Y,Y,Y,Y,Y,Y,Y,Y,Y,Y,Y,Y,Y,Y,Y,Y,Y,Y,Y,Y,Y,Y,Y,Y,Z] ?_
      exact norm_ (by simp only [putAll, Act.put, List.setIfInBounds_toArray, List.set_cons_zero, List.set_cons_succ]) (hCont (gb367) _ ⟨hHeld, (ra_ (Kd.R_mono HO_4.out (fun _ hk => hk.2))), bk_, GW367.out, GE367.out, bz_⟩)
     rintro gb367 w31 ⟨hS_, h0_, h1_, h2_, h3_, h4_⟩
     have n0_ : Aside0 (Kd.R k40 40 w31 w.heap.size (fun k_ => k_ ≠ gb367) (.slice Ao6 x4_1.length co6) x4_1) := ⟨h0_⟩
     have n1_ : Aside0 (w31.heap[gb367]? = some (.cells #[.int .i64 0, .int .i64 0, .int .i64 0, .int .i64 0, .int .i64 0] 40 (0, 0))) := ⟨h1_⟩
     have n2_ : Aside0 (w.heap.size ≤ gb367) := ⟨h2_⟩
     have n3_ : Aside0 (w.heap.size ≤ gb367) := ⟨h3_⟩
     have n4_ : Aside0 (Below w.heap.size w w31) := ⟨h4_⟩
     clear HO_4
     clear HB
     clear h0_ h1_ h2_ h3_ h4_
     have HO_4 := n0_
     have BK367 := n1_
     have GW367 := n2_
     have GE367 := n3_
     have HB := n4_
     clear n0_ n1_ n2_ n3_ n4_
     have hHeld : w31.cell? (ad360.add (x5_1).toNat) = some (.int .u8 (rd l0 x5_1)) ∧ w31.cell? (ad360.add ((ji13)).toNat) = some (.int .u8 (rd l0 (ji13))) ∧ w31.cell? (ad360.add ((ji13)).toNat) = some (.int .u8 (rd l0 (ji13))) := hS_
     refine norm_ (a' := ?_) ?_ ?_
     rotate_left
     ·simp only [putAll, Act.put, List.setIfInBounds_toArray, List.set_cons_zero, List.set_cons_succ]
      rfl
     refine one_ (i := 35) (N := none) #[Y,Y,Y,Y,Y,Y,Y,Y,Y,Y,Y,Y,Y,Y,Y,Y,Y,Y,Y,Y,Y,Y,Y,Y,Y,Y,Y,Y,Y,Y,Y,Y,Y,Y,Y,Y] rfl rfl (one_of HT_.out (by kernel_rfl)) (by decide) (fun K hK => ?_)
     obtain ⟨hs32, hs33, hs34, hs35, hs36, hfs32, hfs33, hfs34, hfs35, hfs36⟩ := k5_ BK367
     refine skip_ (w1 := ?_) (by rfl) rfl ?_ ?_
     rotate_left
     ·go_simp
      rfl
     refine hK.out _ _ ⟨((cell_far (p := ⟨gb367, _, none⟩) (nf_ hw360_0 GW367) _).trans (((cell_far (p := ⟨gb367, _, none⟩) (nf_ hw360_0 GW367) _).trans (((cell_far (p := ⟨gb367, _, none⟩) (nf_ hw360_0 GW367) _).trans (((cell_far (p := ⟨gb367, _, none⟩) (nf_ hw360_0 GW367) _).trans (((cell_far (p := ⟨gb367, _, none⟩) (nf_ hw360_0 GW367) _).trans (hHeld.1)))))))))), ((cell_far (p := ⟨gb367, _, none⟩) (nf_ hw361_0 GW367) _).trans (((cell_far (p := ⟨gb367, _, none⟩) (nf_ hw361_0 GW367) _).trans (((cell_far (p := ⟨gb367, _, none⟩) (nf_ hw361_0 GW367) _).trans (((cell_far (p := ⟨gb367, _, none⟩) (nf_ hw361_0 GW367) _).trans (((cell_far (p := ⟨gb367, _, none⟩) (nf_ hw361_0 GW367) _).trans (hHeld.2.1)))))))))), ((cell_far (p := ⟨gb367, _, none⟩) (nf_ hw362_0 GW367) _).trans (((cell_far (p := ⟨gb367, _, none⟩) (nf_ hw362_0 GW367) _).trans (((cell_far (p := ⟨gb367, _, none⟩) (nf_ hw362_0 GW367) _).trans (((cell_far (p := ⟨gb367, _, none⟩) (nf_ hw362_0 GW367) _).trans (((cell_far (p := ⟨gb367, _, none⟩) (nf_ hw362_0 GW367) _).trans (hHeld.2.2))))))))))⟩ (fun hHeld => ?_)
     clear hK K
     refine done_ (done_of HT_.out (by kernel_rfl)) ?_
     obtain ⟨zc37_0, zc37_1, zc37_2, zc37_3, zc37_4, zf37_0, zf37_1, zf37_2, zf37_3, zf37_4⟩ := k5_ BK367
     go_upto_if 72 with (fail)
     go_cut [] (fun wc => ∃ (kq : Nat) (x368004_25 : Int), Aside0 (lockgateref02_Get.j4 kq l0 x4_1 x5_1 (wrap64 (rd l0 x5_1)) (Int.tmod (wrap64 (rd l0 (ji13))) 16) (wrap64 (Int.tdiv (wrap64 (rd l0 (ji13))) 16)) t364 x368004_25 = some (r1, r2)) ∧ Aside0 (kq ≤ kj4) ∧ Aside0 (Kd.R k40 40 wc w.heap.size (fun k_ => k_ ≠ gb367) (.slice Ao6 x4_1.length co6) x4_1) ∧ Aside0 (wc.heap[gb367]? = some (.cells #[.int .i64 (wrap64 (rd l0 x5_1)), .int .i64 (Int.tmod (wrap64 (rd l0 (ji13))) 16), .int .i64 (wrap64 (Int.tdiv (wrap64 (rd l0 (ji13))) 16)), .int .i64 t364, .int .i64 x368004_25] 40 (0, 0))) ∧ Aside0 (Below w.heap.size w wc))
     case first =>
      have H := HC26.out
      clear HC26
      by_cases c38 : (wrap64 (rd l0 x5_1)) = 24
      rotate_left
      ·rw [if_neg c38] at H
       have c38b0 : ((wrap64 (rd l0 x5_1)) == 24) = false := beq_eq_false_iff_ne.mpr c38
       have c38b1 : ((wrap64 (rd l0 x5_1)) != 24) = true := bne_iff_ne.mpr c38
       (first | rw [c38b0] | (simp only [i64_w, i32_w]; rw [c38b0]) | skip)
       have H' := Aside0.mk H
       clear H
       go_wp2
       (first | go_meet | ((try subst hji21); (try subst hji16); (try subst hji13); go_meet))
       case rel => exact ⟨_, (t366), H', ⟨by have := HK1.out; have := HJ4.out; first | omega | exact Nat.le_refl _⟩, ⟨by (with_reducible repeat (first | apply Kd.R_alloc | apply Kd.R_drewN | apply Kd.R_drew)); exact Kd.R_mono (Kd.R_far (p := ⟨gb367, 4, none⟩) (Kd.R_far (p := ⟨gb367, 3, none⟩) (Kd.R_far (p := ⟨gb367, 2, none⟩) (Kd.R_far (p := ⟨gb367, 1, none⟩) (Kd.R_far (p := ⟨gb367, 0, none⟩) (Kd.R_mono HO_4.out (fun k_ hk => (⟨hk, hk⟩ : _ ∧ k_ ≠ gb367))) (fun _ hk => hk.2) (.int .i64 (wrap64 (rd l0 x5_1)))) (fun _ hk => hk.2) (.int .i64 (Int.tmod (wrap64 (rd l0 (ji13))) 16))) (fun _ hk => hk.2) (.int .i64 (wrap64 (Int.tdiv (wrap64 (rd l0 (ji13))) 16)))) (fun _ hk => hk.2) (.int .i64 t364)) (fun _ hk => hk.2) (.int .i64 t366)) (fun _ hk => hk.1)⟩, ⟨by (with_reducible repeat (first | apply bN_ | apply bD_ | apply bA_)); refine blk_put (cs := #[.int .i64 (wrap64 (rd l0 x5_1)), .int .i64 (Int.tmod (wrap64 (rd l0 (ji13))) 16), .int .i64 (wrap64 (Int.tdiv (wrap64 (rd l0 (ji13))) 16)), .int .i64 t364, .int .i64 0]) ?_ 4 _ rfl; (with_reducible repeat (first | apply bN_ | apply bD_ | apply bA_)); refine blk_put (cs := #[.int .i64 (wrap64 (rd l0 x5_1)), .int .i64 (Int.tmod (wrap64 (rd l0 (ji13))) 16), .int .i64 (wrap64 (Int.tdiv (wrap64 (rd l0 (ji13))) 16)), .int .i64 0, .int .i64 0]) ?_ 3 _ rfl; (with_reducible repeat (first | apply bN_ | apply bD_ | apply bA_)); refine blk_put (cs := #[.int .i64 (wrap64 (rd l0 x5_1)), .int .i64 (Int.tmod (wrap64 (rd l0 (ji13))) 16), .int .i64 0, .int .i64 0, .int .i64 0]) ?_ 2 _ rfl; (with_reducible repeat (first | apply bN_ | apply bD_ | apply bA_)); refine blk_put (cs := #[.int .i64 (wrap64 (rd l0 x5_1)), .int .i64 0, .int .i64 0, .int .i64 0, .int .i64 0]) ?_ 1 _ rfl; (with_reducible repeat (first | apply bN_ | apply bD_ | apply bA_)); refine blk_put (cs := #[.int .i64 0, .int .i64 0, .int .i64 0, .int .i64 0, .int .i64 0]) ?_ 0 _ rfl; exact bk_⟩, ⟨bz_⟩⟩
      rw [if_pos c38] at H
      have c38b0 : ((wrap64 (rd l0 x5_1)) == 24) = true := beq_iff_eq.mpr c38
      have c38b1 : ((wrap64 (rd l0 x5_1)) != 24) = false := bne_eq_false_iff_eq.mpr c38
      clear c38
      (first | rw [c38b0] | (simp only [i64_w, i32_w]; rw [c38b0]) | skip)
      have HC39 := Aside0.mk H
      clear H
      go_upto_region 10 with (fail)
      go_cut [102] (fun v102 wc => ∃ (kq : Nat) (x102_38 : Bool), v102 = .bool x102_38 ∧ Aside0 (lockgateref02_Get.j2 kq l0 x4_1 x5_1 x102_38 (wrap64 (rd l0 x5_1)) (Int.tmod (wrap64 (rd l0 (ji13))) 16) (wrap64 (Int.tdiv (wrap64 (rd l0 (ji13))) 16)) t364 t366 = some (r1, r2)) ∧ Aside0 (kq ≤ kj4) ∧ Aside0 (Kd.R k40 40 wc w.heap.size (fun k_ => k_ ≠ gb367) (.slice Ao6 x4_1.length co6) x4_1) ∧ Aside0 (wc.heap[gb367]? = some (.cells #[.int .i64 (wrap64 (rd l0 x5_1)), .int .i64 (Int.tmod (wrap64 (rd l0 (ji13))) 16), .int .i64 (wrap64 (Int.tdiv (wrap64 (rd l0 (ji13))) 16)), .int .i64 t364, .int .i64 t366] 40 (0, 0))) ∧ Aside0 (Below w.heap.size w wc))
      case first =>
       have H := HC39.out
       clear HC39
       obtain ⟨ji40, hji40⟩ : ∃ j_ : Int, (wrap64 (x5_1 + 8)) = j_ := ⟨_, rfl⟩
       replace H : (if 0 ≤ (ji40) then (if (ji40) < (l0.length : Int) then (if (rd l0 (ji40)) = 0 then (if 0 ≤ (wrap64 (x5_1 + 9)) then (if (wrap64 (x5_1 + 9)) < (l0.length : Int) then (if (rd l0 (wrap64 (x5_1 + 9))) = 0 then (if 0 ≤ (wrap64 (x5_1 + 10)) then (if (wrap64 (x5_1 + 10)) < (l0.length : Int) then (if (rd l0 (wrap64 (x5_1 + 10))) = 0 then (if 0 ≤ (wrap64 (x5_1 + 11)) then (if (wrap64 (x5_1 + 11)) < (l0.length : Int) then (lockgateref02_Get.j2 kj4 l0 x4_1 x5_1 ((rd l0 (wrap64 (x5_1 + 11))) != 0) (wrap64 (rd l0 x5_1)) (Int.tmod (wrap64 (rd l0 (ji13))) 16) (wrap64 (Int.tdiv (wrap64 (rd l0 (ji13))) 16)) t364 t366) else (none)) else (none)) else (lockgateref02_Get.j2 kj4 l0 x4_1 x5_1 true (wrap64 (rd l0 x5_1)) (Int.tmod (wrap64 (rd l0 (ji13))) 16) (wrap64 (Int.tdiv (wrap64 (rd l0 (ji13))) 16)) t364 t366)) else (none)) else (none)) else (lockgateref02_Get.j2 kj4 l0 x4_1 x5_1 true (wrap64 (rd l0 x5_1)) (Int.tmod (wrap64 (rd l0 (ji13))) 16) (wrap64 (Int.tdiv (wrap64 (rd l0 (ji13))) 16)) t364 t366)) else (none)) else (none)) else (lockgateref02_Get.j2 kj4 l0 x4_1 x5_1 true (wrap64 (rd l0 x5_1)) (Int.tmod (wrap64 (rd l0 (ji13))) 16) (wrap64 (Int.tdiv (wrap64 (rd l0 (ji13))) 16)) t364 t366)) else (none)) else (none)) = some (r1, r2) := by first | (rw [hji40] at H; exact H) | (simp only [hji40] at H ⊢; exact H)
       (try rw [hji40] at c23b0)
       (try rw [hji40] at c23b1)
       (try rw [hji40] at c23)
       (try rw [hji40] at c24b0)
       (try rw [hji40] at c24b1)
       (try rw [hji40] at c24)
       have hji40w : (IntKind.i64.wrap (x5_1 + 8)) = ji40 := (i64_w _).trans hji40
       by_cases c41 : 0 ≤ (ji40)
       rotate_left
       ·rw [if_neg c41] at H
        exact absurd H (by simp)
       rw [if_pos c41] at H
       have c41b0 : decide (0 ≤ (ji40)) = true := decide_eq_true c41
       clear c41
       (first | rw [c41b0] | (simp only [i64_w, i32_w]; rw [c41b0]) | skip)
       by_cases c42 : (ji40) < (l0.length : Int)
       rotate_left
       ·rw [if_neg c42] at H
        exact absurd H (by simp)
       rw [if_pos c42] at H
       have c42b0 : decide ((ji40) < (l0.length : Int)) = true := decide_eq_true c42
       clear c42
       by_cases c43 : (rd l0 (ji40)) = 0
       rotate_left
       ·rw [if_neg c43] at H
        have c43b0 : ((rd l0 (ji40)) == 0) = false := beq_eq_false_iff_ne.mpr c43
        have c43b1 : ((rd l0 (ji40)) != 0) = true := bne_iff_ne.mpr c43
        have H' := Aside0.mk H
        clear H
        have p368 : 0 ≤ ((ji40) : Int) := of_decide_eq_true as_
        have q368 : (ji40) < (l0.length : Int) := of_decide_eq_true as_
        obtain ⟨ad368, e368, hx368_0⟩ := Kd.at_int HR0.out (ji40) p368 q368
        obtain rfl : ad360 = ad368 := (by injection e368)
        have hn368_0 : ad360.block ≠ gb367 := nf_ hx368_0 GW367
        have hn368_1 : ad360.block ≠ gb367 := nf_ hx368_0 GW367
        have hn368_2 : ad360.block ≠ gb367 := nf_ hx368_0 GW367
        have hn368_3 : ad360.block ≠ gb367 := nf_ hx368_0 GW367
        have hn368_4 : ad360.block ≠ gb367 := nf_ hx368_0 GW367
        replace hx368_0 := (hc_ HB hx368_0 :)
        replace hx368_0 := (cell_far (p := ⟨gb367, 0, none⟩) (by first | (rw [add_block]; exact hn368_0) | (show (Addr.add _ _).block ≠ _; rw [add_block]; exact hn368_0) | exact hn368_0) (.int .i64 (wrap64 (rd l0 x5_1)))).trans hx368_0
        replace hx368_0 := (cell_far (p := ⟨gb367, 1, none⟩) (by first | (rw [add_block]; exact hn368_1) | (show (Addr.add _ _).block ≠ _; rw [add_block]; exact hn368_1) | exact hn368_1) (.int .i64 (Int.tmod (wrap64 (rd l0 (ji13))) 16))).trans hx368_0
        replace hx368_0 := (cell_far (p := ⟨gb367, 2, none⟩) (by first | (rw [add_block]; exact hn368_2) | (show (Addr.add _ _).block ≠ _; rw [add_block]; exact hn368_2) | exact hn368_2) (.int .i64 (wrap64 (Int.tdiv (wrap64 (rd l0 (ji13))) 16)))).trans hx368_0
        replace hx368_0 := (cell_far (p := ⟨gb367, 3, none⟩) (by first | (rw [add_block]; exact hn368_3) | (show (Addr.add _ _).block ≠ _; rw [add_block]; exact hn368_3) | exact hn368_3) (.int .i64 t364)).trans hx368_0
        replace hx368_0 := (cell_far (p := ⟨gb367, 4, none⟩) (by first | (rw [add_block]; exact hn368_4) | (show (Addr.add _ _).block ≠ _; rw [add_block]; exact hn368_4) | exact hn368_4) (.int .i64 t366)).trans hx368_0
        clear hn368_0
        clear hn368_1
        clear hn368_2
        clear hn368_3
        clear hn368_4
        replace p368 := eq_true p368
        replace q368 := eq_true q368
        go_wp2
        (first | go_meet | ((try subst hji40); (try subst hji21); (try subst hji16); (try subst hji13); go_meet))
        case rel => exact ⟨_, (true), vs_, H', ⟨by have := HK1.out; have := HJ4.out; first | omega | exact Nat.le_refl _⟩, ⟨by (with_reducible repeat (first | apply Kd.R_alloc | apply Kd.R_drewN | apply Kd.R_drew)); exact Kd.R_mono (Kd.R_far (p := ⟨gb367, 4, none⟩) (Kd.R_far (p := ⟨gb367, 3, none⟩) (Kd.R_far (p := ⟨gb367, 2, none⟩) (Kd.R_far (p := ⟨gb367, 1, none⟩) (Kd.R_far (p := ⟨gb367, 0, none⟩) (Kd.R_mono HO_4.out (fun k_ hk => (⟨hk, hk⟩ : _ ∧ k_ ≠ gb367))) (fun _ hk => hk.2) (.int .i64 (wrap64 (rd l0 x5_1)))) (fun _ hk => hk.2) (.int .i64 (Int.tmod (wrap64 (rd l0 (ji13))) 16))) (fun _ hk => hk.2) (.int .i64 (wrap64 (Int.tdiv (wrap64 (rd l0 (ji13))) 16)))) (fun _ hk => hk.2) (.int .i64 t364)) (fun _ hk => hk.2) (.int .i64 t366)) (fun _ hk => hk.1)⟩, ⟨by (with_reducible repeat (first | apply bN_ | apply bD_ | apply bA_)); refine blk_put (cs := #[.int .i64 (wrap64 (rd l0 x5_1)), .int .i64 (Int.tmod (wrap64 (rd l0 (ji13))) 16), .int .i64 (wrap64 (Int.tdiv (wrap64 (rd l0 (ji13))) 16)), .int .i64 t364, .int .i64 0]) ?_ 4 _ rfl; (with_reducible repeat (first | apply bN_ | apply bD_ | apply bA_)); refine blk_put (cs := #[.int .i64 (wrap64 (rd l0 x5_1)), .int .i64 (Int.tmod (wrap64 (rd l0 (ji13))) 16), .int .i64 (wrap64 (Int.tdiv (wrap64 (rd l0 (ji13))) 16)), .int .i64 0, .int .i64 0]) ?_ 3 _ rfl; (with_reducible repeat (first | apply bN_ | apply bD_ | apply bA_)); refine blk_put (cs := #[.int .i64 (wrap64 (rd l0 x5_1)), .int .i64 (Int.tmod (wrap64 (rd l0 (ji13))) 16), .int .i64 0, .int .i64 0, .int .i64 0]) ?_ 2 _ rfl; (with_reducible repeat (first | apply bN_ | apply bD_ | apply bA_)); refine blk_put (cs := #[.int .i64 (wrap64 (rd l0 x5_1)), .int .i64 0, .int .i64 0, .int .i64 0, .int .i64 0]) ?_ 1 _ rfl; (with_reducible repeat (first | apply bN_ | apply bD_ | apply bA_)); refine blk_put (cs := #[.int .i64 0, .int .i64 0, .int .i64 0, .int .i64 0, .int .i64 0]) ?_ 0 _ rfl; exact bk_⟩, ⟨bz_⟩⟩
       rw [if_pos c43] at H
       have c43b0 : ((rd l0 (ji40)) == 0) = true := beq_iff_eq.mpr c43
       have c43b1 : ((rd l0 (ji40)) != 0) = false := bne_eq_false_iff_eq.mpr c43
       clear c43
       obtain ⟨ji44, hji44⟩ : ∃ j_ : Int, (wrap64 (x5_1 + 9)) = j_ := ⟨_, rfl⟩
       replace H : (if 0 ≤ (ji44) then (if (ji44) < (l0.length : Int) then (if (rd l0 (ji44)) = 0 then (if 0 ≤ (wrap64 (x5_1 + 10)) then (if (wrap64 (x5_1 + 10)) < (l0.length : Int) then (if (rd l0 (wrap64 (x5_1 + 10))) = 0 then (if 0 ≤ (wrap64 (x5_1 + 11)) then (if (wrap64 (x5_1 + 11)) < (l0.length : Int) then (lockgateref02_Get.j2 kj4 l0 x4_1 x5_1 ((rd l0 (wrap64 (x5_1 + 11))) != 0) (wrap64 (rd l0 x5_1)) (Int.tmod (wrap64 (rd l0 (ji13))) 16) (wrap64 (Int.tdiv (wrap64 (rd l0 (ji13))) 16)) t364 t366) else (none)) else (none)) else (lockgateref02_Get.j2 kj4 l0 x4_1 x5_1 true (wrap64 (rd l0 x5_1)) (Int.tmod (wrap64 (rd l0 (ji13))) 16) (wrap64 (Int.tdiv (wrap64 (rd l0 (ji13))) 16)) t364 t366)) else (none)) else (none)) else (lockgateref02_Get.j2 kj4 l0 x4_1 x5_1 true (wrap64 (rd l0 x5_1)) (Int.tmod (wrap64 (rd l0 (ji13))) 16) (wrap64 (Int.tdiv (wrap64 (rd l0 (ji13))) 16)) t364 t366)) else (none)) else (none)) = some (r1, r2) := by first | (rw [hji44] at H; exact H) | (simp only [hji44] at H ⊢; exact H)
       have hji44w : (IntKind.i64.wrap (x5_1 + 9)) = ji44 := (i64_w _).trans hji44
       by_cases c45 : 0 ≤ (ji44)
       rotate_left
       ·rw [if_neg c45] at H
        exact absurd H (by simp)
       rw [if_pos c45] at H
       have c45b0 : decide (0 ≤ (ji44)) = true := decide_eq_true c45
       clear c45
       by_cases c46 : (ji44) < (l0.length : Int)
       rotate_left
       ·rw [if_neg c46] at H
        exact absurd H (by simp)
       rw [if_pos c46] at H
       have c46b0 : decide ((ji44) < (l0.length : Int)) = true := decide_eq_true c46
       clear c46
       by_cases c47 : (rd l0 (ji44)) = 0
       rotate_left
       ·rw [if_neg c47] at H
        have c47b0 : ((rd l0 (ji44)) == 0) = false := beq_eq_false_iff_ne.mpr c47
        have c47b1 : ((rd l0 (ji44)) != 0) = true := bne_iff_ne.mpr c47
        have H' := Aside0.mk H
        clear H
        have p368 : 0 ≤ ((ji40) : Int) := of_decide_eq_true as_
        have q368 : (ji40) < (l0.length : Int) := of_decide_eq_true as_
        obtain ⟨ad368, e368, hx368_0⟩ := Kd.at_int HR0.out (ji40) p368 q368
        obtain rfl : ad360 = ad368 := (by injection e368)
        have hn368_0 : ad360.block ≠ gb367 := nf_ hx368_0 GW367
        have hn368_1 : ad360.block ≠ gb367 := nf_ hx368_0 GW367
        have hn368_2 : ad360.block ≠ gb367 := nf_ hx368_0 GW367
        have hn368_3 : ad360.block ≠ gb367 := nf_ hx368_0 GW367
        have hn368_4 : ad360.block ≠ gb367 := nf_ hx368_0 GW367
        replace hx368_0 := (hc_ HB hx368_0 :)
        replace hx368_0 := (cell_far (p := ⟨gb367, 0, none⟩) (by first | (rw [add_block]; exact hn368_0) | (show (Addr.add _ _).block ≠ _; rw [add_block]; exact hn368_0) | exact hn368_0) (.int .i64 (wrap64 (rd l0 x5_1)))).trans hx368_0
        replace hx368_0 := (cell_far (p := ⟨gb367, 1, none⟩) (by first | (rw [add_block]; exact hn368_1) | (show (Addr.add _ _).block ≠ _; rw [add_block]; exact hn368_1) | exact hn368_1) (.int .i64 (Int.tmod (wrap64 (rd l0 (ji13))) 16))).trans hx368_0
        replace hx368_0 := (cell_far (p := ⟨gb367, 2, none⟩) (by first | (rw [add_block]; exact hn368_2) | (show (Addr.add _ _).block ≠ _; rw [add_block]; exact hn368_2) | exact hn368_2) (.int .i64 (wrap64 (Int.tdiv (wrap64 (rd l0 (ji13))) 16)))).trans hx368_0
        replace hx368_0 := (cell_far (p := ⟨gb367, 3, none⟩) (by first | (rw [add_block]; exact hn368_3) | (show (Addr.add _ _).block ≠ _; rw [add_block]; exact hn368_3) | exact hn368_3) (.int .i64 t364)).trans hx368_0
        replace hx368_0 := (cell_far (p := ⟨gb367, 4, none⟩) (by first | (rw [add_block]; exact hn368_4) | (show (Addr.add _ _).block ≠ _; rw [add_block]; exact hn368_4) | exact hn368_4) (.int .i64 t366)).trans hx368_0
        clear hn368_0
        clear hn368_1
        clear hn368_2
        clear hn368_3
        clear hn368_4
        replace p368 := eq_true p368
        replace q368 := eq_true q368
        have p369 : 0 ≤ ((ji44) : Int) := of_decide_eq_true as_
        have q369 : (ji44) < (l0.length : Int) := of_decide_eq_true as_
        obtain ⟨ad369, e369, hx369_0⟩ := Kd.at_int HR0.out (ji44) p369 q369
        obtain rfl : ad360 = ad369 := (by injection e369)
        have hn369_0 : ad360.block ≠ gb367 := nf_ hx369_0 GW367
        have hn369_1 : ad360.block ≠ gb367 := nf_ hx369_0 GW367
        have hn369_2 : ad360.block ≠ gb367 := nf_ hx369_0 GW367
        have hn369_3 : ad360.block ≠ gb367 := nf_ hx369_0 GW367
        have hn369_4 : ad360.block ≠ gb367 := nf_ hx369_0 GW367
        replace hx369_0 := (hc_ HB hx369_0 :)
        replace hx369_0 := (cell_far (p := ⟨gb367, 0, none⟩) (by first | (rw [add_block]; exact hn369_0) | (show (Addr.add _ _).block ≠ _; rw [add_block]; exact hn369_0) | exact hn369_0) (.int .i64 (wrap64 (rd l0 x5_1)))).trans hx369_0
        replace hx369_0 := (cell_far (p := ⟨gb367, 1, none⟩) (by first | (rw [add_block]; exact hn369_1) | (show (Addr.add _ _).block ≠ _; rw [add_block]; exact hn369_1) | exact hn369_1) (.int .i64 (Int.tmod (wrap64 (rd l0 (ji13))) 16))).trans hx369_0
        replace hx369_0 := (cell_far (p := ⟨gb367, 2, none⟩) (by first | (rw [add_block]; exact hn369_2) | (show (Addr.add _ _).block ≠ _; rw [add_block]; exact hn369_2) | exact hn369_2) (.int .i64 (wrap64 (Int.tdiv (wrap64 (rd l0 (ji13))) 16)))).trans hx369_0
        replace hx369_0 := (cell_far (p := ⟨gb367, 3, none⟩) (by first | (rw [add_block]; exact hn369_3) | (show (Addr.add _ _).block ≠ _; rw [add_block]; exact hn369_3) | exact hn369_3) (.int .i64 t364)).trans hx369_0
        replace hx369_0 := (cell_far (p := ⟨gb367, 4, none⟩) (by first | (rw [add_block]; exact hn369_4) | (show (Addr.add _ _).block ≠ _; rw [add_block]; exact hn369_4) | exact hn369_4) (.int .i64 t366)).trans hx369_0
        clear hn369_0
        clear hn369_1
        clear hn369_2
        clear hn369_3
        clear hn369_4
        replace p369 := eq_true p369
        replace q369 := eq_true q369
        go_wp2
        (first | go_meet | ((try subst hji44); (try subst hji40); (try subst hji21); (try subst hji16); (try subst hji13); go_meet))
        case rel => exact ⟨_, (true), vs_, H', ⟨by have := HK1.out; have := HJ4.out; first | omega | exact Nat.le_refl _⟩, ⟨by (with_reducible repeat (first | apply Kd.R_alloc | apply Kd.R_drewN | apply Kd.R_drew)); exact Kd.R_mono (Kd.R_far (p := ⟨gb367, 4, none⟩) (Kd.R_far (p := ⟨gb367, 3, none⟩) (Kd.R_far (p := ⟨gb367, 2, none⟩) (Kd.R_far (p := ⟨gb367, 1, none⟩) (Kd.R_far (p := ⟨gb367, 0, none⟩) (Kd.R_mono HO_4.out (fun k_ hk => (⟨hk, hk⟩ : _ ∧ k_ ≠ gb367))) (fun _ hk => hk.2) (.int .i64 (wrap64 (rd l0 x5_1)))) (fun _ hk => hk.2) (.int .i64 (Int.tmod (wrap64 (rd l0 (ji13))) 16))) (fun _ hk => hk.2) (.int .i64 (wrap64 (Int.tdiv (wrap64 (rd l0 (ji13))) 16)))) (fun _ hk => hk.2) (.int .i64 t364)) (fun _ hk => hk.2) (.int .i64 t366)) (fun _ hk => hk.1)⟩, ⟨by (with_reducible repeat (first | apply bN_ | apply bD_ | apply bA_)); refine blk_put (cs := #[.int .i64 (wrap64 (rd l0 x5_1)), .int .i64 (Int.tmod (wrap64 (rd l0 (ji13))) 16), .int .i64 (wrap64 (Int.tdiv (wrap64 (rd l0 (ji13))) 16)), .int .i64 t364, .int .i64 0]) ?_ 4 _ rfl; (with_reducible repeat (first | apply bN_ | apply bD_ | apply bA_)); refine blk_put (cs := #[.int .i64 (wrap64 (rd l0 x5_1)), .int .i64 (Int.tmod (wrap64 (rd l0 (ji13))) 16), .int .i64 (wrap64 (Int.tdiv (wrap64 (rd l0 (ji13))) 16)), .int .i64 0, .int .i64 0]) ?_ 3 _ rfl; (with_reducible repeat (first | apply bN_ | apply bD_ | apply bA_)); refine blk_put (cs := #[.int .i64 (wrap64 (rd l0 x5_1)), .int .i64 (Int.tmod (wrap64 (rd l0 (ji13))) 16), .int .i64 0, .int .i64 0, .int .i64 0]) ?_ 2 _ rfl; (with_reducible repeat (first | apply bN_ | apply bD_ | apply bA_)); refine blk_put (cs := #[.int .i64 (wrap64 (rd l0 x5_1)), .int .i64 0, .int .i64 0, .int .i64 0, .int .i64 0]) ?_ 1 _ rfl; (with_reducible repeat (first | apply bN_ | apply bD_ | apply bA_)); refine blk_put (cs := #[.int .i64 0, .int .i64 0, .int .i64 0, .int .i64 0, .int .i64 0]) ?_ 0 _ rfl; exact bk_⟩, ⟨bz_⟩⟩
       rw [if_pos c47] at H
       have c47b0 : ((rd l0 (ji44)) == 0) = true := beq_iff_eq.mpr c47
       have c47b1 : ((rd l0 (ji44)) != 0) = false := bne_eq_false_iff_eq.mpr c47
       clear c47
       obtain ⟨ji48, hji48⟩ : ∃ j_ : Int, (wrap64 (x5_1 + 10)) = j_ := ⟨_, rfl⟩
       replace H : (if 0 ≤ (ji48) then (if (ji48) < (l0.length : Int) then (if (rd l0 (ji48)) = 0 then (if 0 ≤ (wrap64 (x5_1 + 11)) then (if (wrap64 (x5_1 + 11)) < (l0.length : Int) then (lockgateref02_Get.j2 kj4 l0 x4_1 x5_1 ((rd l0 (wrap64 (x5_1 + 11))) != 0) (wrap64 (rd l0 x5_1)) (Int.tmod (wrap64 (rd l0 (ji13))) 16) (wrap64 (Int.tdiv (wrap64 (rd l0 (ji13))) 16)) t364 t366) else (none)) else (none)) else (lockgateref02_Get.j2 kj4 l0 x4_1 x5_1 true (wrap64 (rd l0 x5_1)) (Int.tmod (wrap64 (rd l0 (ji13))) 16) (wrap64 (Int.tdiv (wrap64 (rd l0 (ji13))) 16)) t364 t366)) else (none)) else (none)) = some (r1, r2) := by first | (rw [hji48] at H; exact H) | (simp only [hji48] at H ⊢; exact H)
       have hji48w : (IntKind.i64.wrap (x5_1 + 10)) = ji48 := (i64_w _).trans hji48
       by_cases c49 : 0 ≤ (ji48)
       rotate_left
       ·rw [if_neg c49] at H
        exact absurd H (by simp)
       rw [if_pos c49] at H
       have c49b0 : decide (0 ≤ (ji48)) = true := decide_eq_true c49
       clear c49
       by_cases c50 : (ji48) < (l0.length : Int)
       rotate_left
       ·rw [if_neg c50] at H
        exact absurd H (by simp)
       rw [if_pos c50] at H
       have c50b0 : decide ((ji48) < (l0.length : Int)) = true := decide_eq_true c50
       clear c50
       by_cases c51 : (rd l0 (ji48)) = 0
       ·rw [if_pos c51] at H
        have c51b0 : ((rd l0 (ji48)) == 0) = true := beq_iff_eq.mpr c51
        have c51b1 : ((rd l0 (ji48)) != 0) = false := bne_eq_false_iff_eq.mpr c51
        clear c51
        obtain ⟨ji52, hji52⟩ : ∃ j_ : Int, (wrap64 (x5_1 + 11)) = j_ := ⟨_, rfl⟩
        replace H : (if 0 ≤ (ji52) then (if (ji52) < (l0.length : Int) then (lockgateref02_Get.j2 kj4 l0 x4_1 x5_1 ((rd l0 (ji52)) != 0) (wrap64 (rd l0 x5_1)) (Int.tmod (wrap64 (rd l0 (ji13))) 16) (wrap64 (Int.tdiv (wrap64 (rd l0 (ji13))) 16)) t364 t366) else (none)) else (none)) = some (r1, r2) := by first | (rw [hji52] at H; exact H) | (simp only [hji52] at H ⊢; exact H)
        have hji52w : (IntKind.i64.wrap (x5_1 + 11)) = ji52 := (i64_w _).trans hji52
        by_cases c53 : 0 ≤ (ji52)
        rotate_left
        ·rw [if_neg c53] at H
         exact absurd H (by simp)
        rw [if_pos c53] at H
        have c53b0 : decide (0 ≤ (ji52)) = true := decide_eq_true c53
        clear c53
        by_cases c54 : (ji52) < (l0.length : Int)
        rotate_left
        ·rw [if_neg c54] at H
         exact absurd H (by simp)
        rw [if_pos c54] at H
        have c54b0 : decide ((ji52) < (l0.length : Int)) = true := decide_eq_true c54
        clear c54
        have H' := Aside0.mk H
        clear H
        have p368 : 0 ≤ ((ji40) : Int) := of_decide_eq_true as_
        have q368 : (ji40) < (l0.length : Int) := of_decide_eq_true as_
        obtain ⟨ad368, e368, hx368_0⟩ := Kd.at_int HR0.out (ji40) p368 q368
        obtain rfl : ad360 = ad368 := (by injection e368)
        have hn368_0 : ad360.block ≠ gb367 := nf_ hx368_0 GW367
        have hn368_1 : ad360.block ≠ gb367 := nf_ hx368_0 GW367
        have hn368_2 : ad360.block ≠ gb367 := nf_ hx368_0 GW367
        have hn368_3 : ad360.block ≠ gb367 := nf_ hx368_0 GW367
        have hn368_4 : ad360.block ≠ gb367 := nf_ hx368_0 GW367
        replace hx368_0 := (hc_ HB hx368_0 :)
        replace hx368_0 := (cell_far (p := ⟨gb367, 0, none⟩) (by first | (rw [add_block]; exact hn368_0) | (show (Addr.add _ _).block ≠ _; rw [add_block]; exact hn368_0) | exact hn368_0) (.int .i64 (wrap64 (rd l0 x5_1)))).trans hx368_0
        replace hx368_0 := (cell_far (p := ⟨gb367, 1, none⟩) (by first | (rw [add_block]; exact hn368_1) | (show (Addr.add _ _).block ≠ _; rw [add_block]; exact hn368_1) | exact hn368_1) (.int .i64 (Int.tmod (wrap64 (rd l0 (ji13))) 16))).trans hx368_0
        replace hx368_0 := (cell_far (p := ⟨gb367, 2, none⟩) (by first | (rw [add_block]; exact hn368_2) | (show (Addr.add _ _).block ≠ _; rw [add_block]; exact hn368_2) | exact hn368_2) (.int .i64 (wrap64 (Int.tdiv (wrap64 (rd l0 (ji13))) 16)))).trans hx368_0
        replace hx368_0 := (cell_far (p := ⟨gb367, 3, none⟩) (by first | (rw [add_block]; exact hn368_3) | (show (Addr.add _ _).block ≠ _; rw [add_block]; exact hn368_3) | exact hn368_3) (.int .i64 t364)).trans hx368_0
        replace hx368_0 := (cell_far (p := ⟨gb367, 4, none⟩) (by first | (rw [add_block]; exact hn368_4) | (show (Addr.add _ _).block ≠ _; rw [add_block]; exact hn368_4) | exact hn368_4) (.int .i64 t366)).trans hx368_0
        clear hn368_0
        clear hn368_1
        clear hn368_2
        clear hn368_3
        clear hn368_4
        replace p368 := eq_true p368
        replace q368 := eq_true q368
        have p369 : 0 ≤ ((ji44) : Int) := of_decide_eq_true as_
        have q369 : (ji44) < (l0.length : Int) := of_decide_eq_true as_
        obtain ⟨ad369, e369, hx369_0⟩ := Kd.at_int HR0.out (ji44) p369 q369
        obtain rfl : ad360 = ad369 := (by injection e369)
        have hn369_0 : ad360.block ≠ gb367 := nf_ hx369_0 GW367
        have hn369_1 : ad360.block ≠ gb367 := nf_ hx369_0 GW367
        have hn369_2 : ad360.block ≠ gb367 := nf_ hx369_0 GW367
        have hn369_3 : ad360.block ≠ gb367 := nf_ hx369_0 GW367
        have hn369_4 : ad360.block ≠ gb367 := nf_ hx369_0 GW367
        replace hx369_0 := (hc_ HB hx369_0 :)
        replace hx369_0 := (cell_far (p := ⟨gb367, 0, none⟩) (by first | (rw [add_block]; exact hn369_0) | (show (Addr.add _ _).block ≠ _; rw [add_block]; exact hn369_0) | exact hn369_0) (.int .i64 (wrap64 (rd l0 x5_1)))).trans hx369_0
        replace hx369_0 := (cell_far (p := ⟨gb367, 1, none⟩) (by first | (rw [add_block]; exact hn369_1) | (show (Addr.add _ _).block ≠ _; rw [add_block]; exact hn369_1) | exact hn369_1) (.int .i64 (Int.tmod (wrap64 (rd l0 (ji13))) 16))).trans hx369_0
        replace hx369_0 := (cell_far (p := ⟨gb367, 2, none⟩) (by first | (rw [add_block]; exact hn369_2) | (show (Addr.add _ _).block ≠ _; rw [add_block]; exact hn369_2) | exact hn369_2) (.int .i64 (wrap64 (Int.tdiv (wrap64 (rd l0 (ji13))) 16)))).trans hx369_0
        replace hx369_0 := (cell_far (p := ⟨gb367, 3, none⟩) (by first | (rw [add_block]; exact hn369_3) | (show (Addr.add _ _).block ≠ _; rw [add_block]; exact hn369_3) | exact hn369_3) (.int .i64 t364)).trans hx369_0
        replace hx369_0 := (cell_far (p := ⟨gb367, 4, none⟩) (by first | (rw [add_block]; exact hn369_4) | (show (Addr.add _ _).block ≠ _; rw [add_block]; exact hn369_4) | exact hn369_4) (.int .i64 t366)).trans hx369_0
        clear hn369_0
        clear hn369_1
        clear hn369_2
        clear hn369_3
        clear hn369_4
        replace p369 := eq_true p369
        replace q369 := eq_true q369
        have p370 : 0 ≤ ((ji48) : Int) := of_decide_eq_true as_
        have q370 : (ji48) < (l0.length : Int) := of_decide_eq_true as_
        obtain ⟨ad370, e370, hx370_0⟩ := Kd.at_int HR0.out (ji48) p370 q370
        obtain rfl : ad360 = ad370 := (by injection e370)
        have hn370_0 : ad360.block ≠ gb367 := nf_ hx370_0 GW367
        have hn370_1 : ad360.block ≠ gb367 := nf_ hx370_0 GW367
        have hn370_2 : ad360.block ≠ gb367 := nf_ hx370_0 GW367
        have hn370_3 : ad360.block ≠ gb367 := nf_ hx370_0 GW367
        have hn370_4 : ad360.block ≠ gb367 := nf_ hx370_0 GW367
        replace hx370_0 := (hc_ HB hx370_0 :)
        replace hx370_0 := (cell_far (p := ⟨gb367, 0, none⟩) (by first | (rw [add_block]; exact hn370_0) | (show (Addr.add _ _).block ≠ _; rw [add_block]; exact hn370_0) | exact hn370_0) (.int .i64 (wrap64 (rd l0 x5_1)))).trans hx370_0
        replace hx370_0 := (cell_far (p := ⟨gb367, 1, none⟩) (by first | (rw [add_block]; exact hn370_1) | (show (Addr.add _ _).block ≠ _; rw [add_block]; exact hn370_1) | exact hn370_1) (.int .i64 (Int.tmod (wrap64 (rd l0 (ji13))) 16))).trans hx370_0
        replace hx370_0 := (cell_far (p := ⟨gb367, 2, none⟩) (by first | (rw [add_block]; exact hn370_2) | (show (Addr.add _ _).block ≠ _; rw [add_block]; exact hn370_2) | exact hn370_2) (.int .i64 (wrap64 (Int.tdiv (wrap64 (rd l0 (ji13))) 16)))).trans hx370_0
        replace hx370_0 := (cell_far (p := ⟨gb367, 3, none⟩) (by first | (rw [add_block]; exact hn370_3) | (show (Addr.add _ _).block ≠ _; rw [add_block]; exact hn370_3) | exact hn370_3) (.int .i64 t364)).trans hx370_0
        replace hx370_0 := (cell_far (p := ⟨gb367, 4, none⟩) (by first | (rw [add_block]; exact hn370_4) | (show (Addr.add _ _).block ≠ _; rw [add_block]; exact hn370_4) | exact hn370_4) (.int .i64 t366)).trans hx370_0
        clear hn370_0
        clear hn370_1
        clear hn370_2
        clear hn370_3
        clear hn370_4
        replace p370 := eq_true p370
        replace q370 := eq_true q370
        have p371 : 0 ≤ ((ji52) : Int) := of_decide_eq_true as_
        have q371 : (ji52) < (l0.length : Int) := of_decide_eq_true as_
        obtain ⟨ad371, e371, hx371_0⟩ := Kd.at_int HR0.out (ji52) p371 q371
        obtain rfl : ad360 = ad371 := (by injection e371)
        have hn371_0 : ad360.block ≠ gb367 := nf_ hx371_0 GW367
        have hn371_1 : ad360.block ≠ gb367 := nf_ hx371_0 GW367
        have hn371_2 : ad360.block ≠ gb367 := nf_ hx371_0 GW367
        have hn371_3 : ad360.block ≠ gb367 := nf_ hx371_0 GW367
        have hn371_4 : ad360.block ≠ gb367 := nf_ hx371_0 GW367
        replace hx371_0 := (hc_ HB hx371_0 :)
        replace hx371_0 := (cell_far (p := ⟨gb367, 0, none⟩) (by first | (rw [add_block]; exact hn371_0) | (show (Addr.add _ _).block ≠ _; rw [add_block]; exact hn371_0) | exact hn371_0) (.int .i64 (wrap64 (rd l0 x5_1)))).trans hx371_0
        replace hx371_0 := (cell_far (p := ⟨gb367, 1, none⟩) (by first | (rw [add_block]; exact hn371_1) | (show (Addr.add _ _).block ≠ _; rw [add_block]; exact hn371_1) | exact hn371_1) (.int .i64 (Int.tmod (wrap64 (rd l0 (ji13))) 16))).trans hx371_0
        replace hx371_0 := (cell_far (p := ⟨gb367, 2, none⟩) (by first | (rw [add_block]; exact hn371_2) | (show (Addr.add _ _).block ≠ _; rw [add_block]; exact hn371_2) | exact hn371_2) (.int .i64 (wrap64 (Int.tdiv (wrap64 (rd l0 (ji13))) 16)))).trans hx371_0
        replace hx371_0 := (cell_far (p := ⟨gb367, 3, none⟩) (by first | (rw [add_block]; exact hn371_3) | (show (Addr.add _ _).block ≠ _; rw [add_block]; exact hn371_3) | exact hn371_3) (.int .i64 t364)).trans hx371_0
        replace hx371_0 := (cell_far (p := ⟨gb367, 4, none⟩) (by first | (rw [add_block]; exact hn371_4) | (show (Addr.add _ _).block ≠ _; rw [add_block]; exact hn371_4) | exact hn371_4) (.int .i64 t366)).trans hx371_0
        clear hn371_0
        clear hn371_1
        clear hn371_2
        clear hn371_3
        clear hn371_4
        replace p371 := eq_true p371
        replace q371 := eq_true q371
        go_wp2
        (first | go_meet | ((try subst hji52); (try subst hji48); (try subst hji44); (try subst hji40); (try subst hji21); (try subst hji16); (try subst hji13); go_meet))
        case rel => exact ⟨_, (((rd l0 (ji52)) != 0)), (by first | rfl | (simp; done) | (simp only [← hji52] <;> (first | rfl | simp)) | (simp [*]; done)), H', ⟨by have := HK1.out; have := HJ4.out; first | omega | exact Nat.le_refl _⟩, ⟨by (with_reducible repeat (first | apply Kd.R_alloc | apply Kd.R_drewN | apply Kd.R_drew)); exact Kd.R_mono (Kd.R_far (p := ⟨gb367, 4, none⟩) (Kd.R_far (p := ⟨gb367, 3, none⟩) (Kd.R_far (p := ⟨gb367, 2, none⟩) (Kd.R_far (p := ⟨gb367, 1, none⟩) (Kd.R_far (p := ⟨gb367, 0, none⟩) (Kd.R_mono HO_4.out (fun k_ hk => (⟨hk, hk⟩ : _ ∧ k_ ≠ gb367))) (fun _ hk => hk.2) (.int .i64 (wrap64 (rd l0 x5_1)))) (fun _ hk => hk.2) (.int .i64 (Int.tmod (wrap64 (rd l0 (ji13))) 16))) (fun _ hk => hk.2) (.int .i64 (wrap64 (Int.tdiv (wrap64 (rd l0 (ji13))) 16)))) (fun _ hk => hk.2) (.int .i64 t364)) (fun _ hk => hk.2) (.int .i64 t366)) (fun _ hk => hk.1)⟩, ⟨by (with_reducible repeat (first | apply bN_ | apply bD_ | apply bA_)); refine blk_put (cs := #[.int .i64 (wrap64 (rd l0 x5_1)), .int .i64 (Int.tmod (wrap64 (rd l0 (ji13))) 16), .int .i64 (wrap64 (Int.tdiv (wrap64 (rd l0 (ji13))) 16)), .int .i64 t364, .int .i64 0]) ?_ 4 _ rfl; (with_reducible repeat (first | apply bN_ | apply bD_ | apply bA_)); refine blk_put (cs := #[.int .i64 (wrap64 (rd l0 x5_1)), .int .i64 (Int.tmod (wrap64 (rd l0 (ji13))) 16), .int .i64 (wrap64 (Int.tdiv (wrap64 (rd l0 (ji13))) 16)), .int .i64 0, .int .i64 0]) ?_ 3 _ rfl; (with_reducible repeat (first | apply bN_ | apply bD_ | apply bA_)); refine blk_put (cs := #[.int .i64 (wrap64 (rd l0 x5_1)), .int .i64 (Int.tmod (wrap64 (rd l0 (ji13))) 16), .int .i64 0, .int .i64 0, .int .i64 0]) ?_ 2 _ rfl; (with_reducible repeat (first | apply bN_ | apply bD_ | apply bA_)); refine blk_put (cs := #[.int .i64 (wrap64 (rd l0 x5_1)), .int .i64 0, .int .i64 0, .int .i64 0, .int .i64 0]) ?_ 1 _ rfl; (with_reducible repeat (first | apply bN_ | apply bD_ | apply bA_)); refine blk_put (cs := #[.int .i64 0, .int .i64 0, .int .i64 0, .int .i64 0, .int .i64 0]) ?_ 0 _ rfl; exact bk_⟩, ⟨bz_⟩⟩
       rw [if_neg c51] at H
       have c51b0 : ((rd l0 (ji48)) == 0) = false := beq_eq_false_iff_ne.mpr c51
       have c51b1 : ((rd l0 (ji48)) != 0) = true := bne_iff_ne.mpr c51
       have H' := Aside0.mk H
       clear H
       have p368 : 0 ≤ ((ji40) : Int) := of_decide_eq_true as_
       have q368 : (ji40) < (l0.length : Int) := of_decide_eq_true as_
       obtain ⟨ad368, e368, hx368_0⟩ := Kd.at_int HR0.out (ji40) p368 q368
       obtain rfl : ad360 = ad368 := (by injection e368)
       have hn368_0 : ad360.block ≠ gb367 := nf_ hx368_0 GW367
       have hn368_1 : ad360.block ≠ gb367 := nf_ hx368_0 GW367
       have hn368_2 : ad360.block ≠ gb367 := nf_ hx368_0 GW367
       have hn368_3 : ad360.block ≠ gb367 := nf_ hx368_0 GW367
       have hn368_4 : ad360.block ≠ gb367 := nf_ hx368_0 GW367
       replace hx368_0 := (hc_ HB hx368_0 :)
       replace hx368_0 := (cell_far (p := ⟨gb367, 0, none⟩) (by first | (rw [add_block]; exact hn368_0) | (show (Addr.add _ _).block ≠ _; rw [add_block]; exact hn368_0) | exact hn368_0) (.int .i64 (wrap64 (rd l0 x5_1)))).trans hx368_0
       replace hx368_0 := (cell_far (p := ⟨gb367, 1, none⟩) (by first | (rw [add_block]; exact hn368_1) | (show (Addr.add _ _).block ≠ _; rw [add_block]; exact hn368_1) | exact hn368_1) (.int .i64 (Int.tmod (wrap64 (rd l0 (ji13))) 16))).trans hx368_0
       replace hx368_0 := (cell_far (p := ⟨gb367, 2, none⟩) (by first | (rw [add_block]; exact hn368_2) | (show (Addr.add _ _).block ≠ _; rw [add_block]; exact hn368_2) | exact hn368_2) (.int .i64 (wrap64 (Int.tdiv (wrap64 (rd l0 (ji13))) 16)))).trans hx368_0
       replace hx368_0 := (cell_far (p := ⟨gb367, 3, none⟩) (by first | (rw [add_block]; exact hn368_3) | (show (Addr.add _ _).block ≠ _; rw [add_block]; exact hn368_3) | exact hn368_3) (.int .i64 t364)).trans hx368_0
       replace hx368_0 := (cell_far (p := ⟨gb367, 4, none⟩) (by first | (rw [add_block]; exact hn368_4) | (show (Addr.add _ _).block ≠ _; rw [add_block]; exact hn368_4) | exact hn368_4) (.int .i64 t366)).trans hx368_0
       clear hn368_0
       clear hn368_1
       clear hn368_2
       clear hn368_3
       clear hn368_4
       replace p368 := eq_true p368
       replace q368 := eq_true q368
       have p369 : 0 ≤ ((ji44) : Int) := of_decide_eq_true as_
       have q369 : (ji44) < (l0.length : Int) := of_decide_eq_true as_
       obtain ⟨ad369, e369, hx369_0⟩ := Kd.at_int HR0.out (ji44) p369 q369
       obtain rfl : ad360 = ad369 := (by injection e369)
       have hn369_0 : ad360.block ≠ gb367 := nf_ hx369_0 GW367
       have hn369_1 : ad360.block ≠ gb367 := nf_ hx369_0 GW367
       have hn369_2 : ad360.block ≠ gb367 := nf_ hx369_0 GW367
       have hn369_3 : ad360.block ≠ gb367 := nf_ hx369_0 GW367
       have hn369_4 : ad360.block ≠ gb367 := nf_ hx369_0 GW367
       replace hx369_0 := (hc_ HB hx369_0 :)
       replace hx369_0 := (cell_far (p := ⟨gb367, 0, none⟩) (by first | (rw [add_block]; exact hn369_0) | (show (Addr.add _ _).block ≠ _; rw [add_block]; exact hn369_0) | exact hn369_0) (.int .i64 (wrap64 (rd l0 x5_1)))).trans hx369_0
       replace hx369_0 := (cell_far (p := ⟨gb367, 1, none⟩) (by first | (rw [add_block]; exact hn369_1) | (show (Addr.add _ _).block ≠ _; rw [add_block]; exact hn369_1) | exact hn369_1) (.int .i64 (Int.tmod (wrap64 (rd l0 (ji13))) 16))).trans hx369_0
       replace hx369_0 := (cell_far (p := ⟨gb367, 2, none⟩) (by first | (rw [add_block]; exact hn369_2) | (show (Addr.add _ _).block ≠ _; rw [add_block]; exact hn369_2) | exact hn369_2) (.int .i64 (wrap64 (Int.tdiv (wrap64 (rd l0 (ji13))) 16)))).trans hx369_0
       replace hx369_0 := (cell_far (p := ⟨gb367, 3, none⟩) (by first | (rw [add_block]; exact hn369_3) | (show (Addr.add _ _).block ≠ _; rw [add_block]; exact hn369_3) | exact hn369_3) (.int .i64 t364)).trans hx369_0
       replace hx369_0 := (cell_far (p := ⟨gb367, 4, none⟩) (by first | (rw [add_block]; exact hn369_4) | (show (Addr.add _ _).block ≠ _; rw [add_block]; exact hn369_4) | exact hn369_4) (.int .i64 t366)).trans hx369_0
       clear hn369_0
       clear hn369_1
       clear hn369_2
       clear hn369_3
       clear hn369_4
       replace p369 := eq_true p369
       replace q369 := eq_true q369
       have p370 : 0 ≤ ((ji48) : Int) := of_decide_eq_true as_
       have q370 : (ji48) < (l0.length : Int) := of_decide_eq_true as_
       obtain ⟨ad370, e370, hx370_0⟩ := Kd.at_int HR0.out (ji48) p370 q370
       obtain rfl : ad360 = ad370 := (by injection e370)
       have hn370_0 : ad360.block ≠ gb367 := nf_ hx370_0 GW367
       have hn370_1 : ad360.block ≠ gb367 := nf_ hx370_0 GW367
       have hn370_2 : ad360.block ≠ gb367 := nf_ hx370_0 GW367
       have hn370_3 : ad360.block ≠ gb367 := nf_ hx370_0 GW367
       have hn370_4 : ad360.block ≠ gb367 := nf_ hx370_0 GW367
       replace hx370_0 := (hc_ HB hx370_0 :)
       replace hx370_0 := (cell_far (p := ⟨gb367, 0, none⟩) (by first | (rw [add_block]; exact hn370_0) | (show (Addr.add _ _).block ≠ _; rw [add_block]; exact hn370_0) | exact hn370_0) (.int .i64 (wrap64 (rd l0 x5_1)))).trans hx370_0
       replace hx370_0 := (cell_far (p := ⟨gb367, 1, none⟩) (by first | (rw [add_block]; exact hn370_1) | (show (Addr.add _ _).block ≠ _; rw [add_block]; exact hn370_1) | exact hn370_1) (.int .i64 (Int.tmod (wrap64 (rd l0 (ji13))) 16))).trans hx370_0
       replace hx370_0 := (cell_far (p := ⟨gb367, 2, none⟩) (by first | (rw [add_block]; exact hn370_2) | (show (Addr.add _ _).block ≠ _; rw [add_block]; exact hn370_2) | exact hn370_2) (.int .i64 (wrap64 (Int.tdiv (wrap64 (rd l0 (ji13))) 16)))).trans hx370_0
       replace hx370_0 := (cell_far (p := ⟨gb367, 3, none⟩) (by first | (rw [add_block]; exact hn370_3) | (show (Addr.add _ _).block ≠ _; rw [add_block]; exact hn370_3) | exact hn370_3) (.int .i64 t364)).trans hx370_0
       replace hx370_0 := (cell_far (p := ⟨gb367, 4, none⟩) (by first | (rw [add_block]; exact hn370_4) | (show (Addr.add _ _).block ≠ _; rw [add_block]; exact hn370_4) | exact hn370_4) (.int .i64 t366)).trans hx370_0
       clear hn370_0
       clear hn370_1
       clear hn370_2
       clear hn370_3
       clear hn370_4
       replace p370 := eq_true p370
       replace q370 := eq_true q370
       go_wp2
       (first | go_meet | ((try subst hji48); (try subst hji44); (try subst hji40); (try subst hji21); (try subst hji16); (try subst hji13); go_meet))
       case rel => exact ⟨_, (true), vs_, H', ⟨by have := HK1.out; have := HJ4.out; first | omega | exact Nat.le_refl _⟩, ⟨by (with_reducible repeat (first | apply Kd.R_alloc | apply Kd.R_drewN | apply Kd.R_drew)); exact Kd.R_mono (Kd.R_far (p := ⟨gb367, 4, none⟩) (Kd.R_far (p := ⟨gb367, 3, none⟩) (Kd.R_far (p := ⟨gb367, 2, none⟩) (Kd.R_far (p := ⟨gb367, 1, none⟩) (Kd.R_far (p := ⟨gb367, 0, none⟩) (Kd.R_mono HO_4.out (fun k_ hk => (⟨hk, hk⟩ : _ ∧ k_ ≠ gb367))) (fun _ hk => hk.2) (.int .i64 (wrap64 (rd l0 x5_1)))) (fun _ hk => hk.2) (.int .i64 (Int.tmod (wrap64 (rd l0 (ji13))) 16))) (fun _ hk => hk.2) (.int .i64 (wrap64 (Int.tdiv (wrap64 (rd l0 (ji13))) 16)))) (fun _ hk => hk.2) (.int .i64 t364)) (fun _ hk => hk.2) (.int .i64 t366)) (fun _ hk => hk.1)⟩, ⟨by (with_reducible repeat (first | apply bN_ | apply bD_ | apply bA_)); refine blk_put (cs := #[.int .i64 (wrap64 (rd l0 x5_1)), .int .i64 (Int.tmod (wrap64 (rd l0 (ji13))) 16), .int .i64 (wrap64 (Int.tdiv (wrap64 (rd l0 (ji13))) 16)), .int .i64 t364, .int .i64 0]) ?_ 4 _ rfl; (with_reducible repeat (first | apply bN_ | apply bD_ | apply bA_)); refine blk_put (cs := #[.int .i64 (wrap64 (rd l0 x5_1)), .int .i64 (Int.tmod (wrap64 (rd l0 (ji13))) 16), .int .i64 (wrap64 (Int.tdiv (wrap64 (rd l0 (ji13))) 16)), .int .i64 0, .int .i64 0]) ?_ 3 _ rfl; (with_reducible repeat (first | apply bN_ | apply bD_ | apply bA_)); refine blk_put (cs := #[.int .i64 (wrap64 (rd l0 x5_1)), .int .i64 (Int.tmod (wrap64 (rd l0 (ji13))) 16), .int .i64 0, .int .i64 0, .int .i64 0]) ?_ 2 _ rfl; (with_reducible repeat (first | apply bN_ | apply bD_ | apply bA_)); refine blk_put (cs := #[.int .i64 (wrap64 (rd l0 x5_1)), .int .i64 0, .int .i64 0, .int .i64 0, .int .i64 0]) ?_ 1 _ rfl; (with_reducible repeat (first | apply bN_ | apply bD_ | apply bA_)); refine blk_put (cs := #[.int .i64 0, .int .i64 0, .int .i64 0, .int .i64 0, .int .i64 0]) ?_ 0 _ rfl; exact bk_⟩, ⟨bz_⟩⟩
      case rest =>
       clear HC39
       try clear c2
       try clear p2
       try clear c3
       try clear p3
       try clear q3
       try clear hx3
       try clear c4
       try clear c5
       try clear p6
       try clear c23
       try clear c23b0
       try clear c23b1
       try clear c24
       try clear c24b0
       try clear c24b1
       try clear p36
       try clear q36
       try clear hx36
       try clear p37
       try clear q37
       try clear hx37
       try clear c38
       try clear c38b0
       try clear c38b1
       try clear c41
       try clear c41b0
       try clear c42
       try clear c42b0
       try clear c43
       try clear c43b0
       try clear c43b1
       try clear c45
       try clear c45b0
       try clear c46
       try clear c46b0
       try clear c47
       try clear c47b0
       try clear c47b1
       try clear c49
       try clear c49b0
       try clear c50
       try clear c50b0
       try clear c51
       try clear c51b0
       try clear c51b1
       try clear c53
       try clear c53b0
       try clear c54
       try clear c54b0
       try clear zc37_0
       try clear zc37_1
       try clear zc37_2
       try clear zc37_3
       try clear zc37_4
       try clear zf37_0
       try clear zf37_1
       try clear zf37_2
       try clear zf37_3
       try clear zf37_4
       try clear hx368_0
       try clear hx369_0
       try clear hx370_0
       try clear hx371_0
       try clear p368
       try clear p369
       try clear p370
       try clear p371
       try clear q368
       try clear q369
       try clear q370
       try clear q371
       obtain ⟨kq, x102_38, rfl, HA, HJ38, HO_4, BK367, HB⟩ := hcut
       cases kq with
       | zero => exact absurd HA.out (by simp [lockgateref02_Get.j2])
       | succ kj38 =>
        have H := HA.out
        clear HA
        simp only [lockgateref02_Get.j2] at H
        by_cases c55 : x102_38 = true
        ·subst c55
         have H1 := if1_ H
         clear H
         have H := H1
         clear H1
         simp only [Option.some.injEq, Prod.mk.injEq] at H
         obtain ⟨rfl, rfl⟩ := H
         go_wp2
         go_ret2
         exact ⟨_, by first | rfl | (simp [errW_none, errW_some] <;> rfl) | (simp only [← hji13, ← hji16, ← hji21]; first | rfl | (simp [errW_none, errW_some] <;> rfl)) | (simp [*, errW_none, errW_some] <;> rfl), by first | exact Kd.R_nil _ _ _ _ _ | exact Kd.N_nil _ _ _ _ _ | exact Kd.V_nil _ _ _ _ _ | exact Kd.Q_nil _ _ _ _ _ | exact Kd.S_nil _ _ _ _ _, bz_⟩
        replace c55 := Bool.eq_false_iff.mpr c55
        subst c55
        have H1 := if0_ H
        clear H
        have H := H1
        clear H1
        obtain ⟨ji56, hji56⟩ : ∃ j_ : Int, (wrap64 (x5_1 + 4)) = j_ := ⟨_, rfl⟩
        replace H : (if 0 ≤ (ji56) then (if (ji56) ≤ (wrap64 (x5_1 + 8)) then (if (wrap64 (x5_1 + 8)) ≤ (l0.length : Int) then ((lockgatekit_CopyBytes.f kj38 ((l0.take ((wrap64 (x5_1 + 8)) : Int).toNat).drop ((ji56) : Int).toNat)).bind fun t373 => (lockgateref02_Get.l1 kj38 l0 x4_1 x5_1 t373 12 (wrap64 (rd l0 x5_1)) (Int.tmod (wrap64 (rd l0 (ji13))) 16) (wrap64 (Int.tdiv (wrap64 (rd l0 (ji13))) 16)) t364 t366)) else (none)) else (none)) else (none)) = some (r1, r2) := by first | (rw [hji56] at H; exact H) | (simp only [hji56] at H ⊢; exact H)
        (try rw [hji56] at c18b0)
        (try rw [hji56] at c18b1)
        (try rw [hji56] at c18)
        (try rw [hji56] at c19b0)
        (try rw [hji56] at c19b1)
        (try rw [hji56] at c19)
        have hji56w : (IntKind.i64.wrap (x5_1 + 4)) = ji56 := (i64_w _).trans hji56
        (have e_ := hji56.symm.trans hji21; subst e_)
        by_cases c57 : 0 ≤ (ji56)
        rotate_left
        ·rw [if_neg c57] at H
         exact absurd H (by simp)
        rw [if_pos c57] at H
        have c57b0 := eq_true c57
        have c57b1 : decide (0 ≤ (ji56)) = true := decide_eq_true c57
        clear c57
        by_cases c58 : (ji56) ≤ (wrap64 (x5_1 + 8))
        rotate_left
        ·rw [if_neg c58] at H
         exact absurd H (by simp)
        rw [if_pos c58] at H
        have c58b0 := eq_true c58
        have c58b1 : decide ((ji56) ≤ (wrap64 (x5_1 + 8))) = true := decide_eq_true c58
        by_cases c59 : (wrap64 (x5_1 + 8)) ≤ (l0.length : Int)
        rotate_left
        ·rw [if_neg c59] at H
         exact absurd H (by simp)
        rw [if_pos c59] at H
        have c59b0 := eq_true c59
        have c59b1 : decide ((wrap64 (x5_1 + 8)) ≤ (l0.length : Int)) = true := decide_eq_true c59
        replace H := Option.bind_eq_some_iff.mp H
        obtain ⟨t373, A600, H⟩ := H
        (try dsimp only at H)
        have A60 := Aside0.mk A600
        clear A600
        have H' := Aside0.mk H
        clear H
        obtain ⟨i061, hi061, _, hsz61, _⟩ := info_parts info5
        (try clear hcut29)
        obtain ⟨A61, hcut61, hA61, hC61⟩ := print_mid_of (P := Try.prog) (Value.int .u8) 0 25 5 .i64 .i64 Try.underlying25 hi061 hsz61 (some ad360) c0 l0 (ji56) (wrap64 (x5_1 + 8)) (of_decide_eq_true as_) (by first | omega | exact of_decide_eq_true as_) (of_decide_eq_true as_) HC0.out
        have HR372 := Aside0.mk (Kd.C_of_reads (h1 := fun _ => rfl) (hA61 _ (Kd.reads_of_C HR0.out)))
        have HC372 := Aside0.mk hC61
        clear hA61 hC61 hi061 hsz61
        go_wp2_with (first | ((with_reducible refine gate_callee (f := 36) rfl ?_); refine goesL_ (some 109) rfl rfl Try.func36 (by kernel_rfl) rfl #[.slice A61 ((l0.take ((wrap64 (x5_1 + 8)) : Int).toNat).drop ((ji56) : Int).toNat).length (c0 - (ji56).toNat)] rfl (by (try simp only [List.map_toArray, List.map_cons, List.map_nil]); first | done | (rw [show ((l0.take ((wrap64 (x5_1 + 8)) : Int).toNat).drop ((ji56) : Int).toNat).length = ((wrap64 (x5_1 + 8)).toNat - (ji56).toNat) from (by rw [List.length_drop, List.length_take]; have h_ : ((wrap64 (x5_1 + 8)) : Int) ≤ (l0.length : Int) := of_decide_eq_true as_; omega)] <;> rfl) | (simp only [hji56]; rfl) | rfl | (simp only [List.length_drop, List.length_take]; rfl)) ?_; (with_reducible refine (lockgatekit_CopyBytes.calls kj38 _ _ ((l0.take ((wrap64 (x5_1 + 8)) : Int).toNat).drop ((ji56) : Int).toNat) t373 _ ?side1 ?side2 A60.out).mono ?_); (case side1 => exact ca_ (Kd.C_below HR372.out HB.out)); (case side2 => exact HC372.out); rintro e w62 ⟨v374, rfl, ho0, hb⟩; refine ⟨_, rfl, ?_⟩; have n0_ := Aside0.mk (Kd.R_below (ra_ HO_4.out) hb); have n1_ := Aside0.mk (Kd.R_lower ho0 (below_size bz_)); have n2_ := Aside0.mk (blk_below (g := gb367) (o := .cells #[.int .i64 (wrap64 (rd l0 x5_1)), .int .i64 (Int.tmod (wrap64 (rd l0 (ji13))) 16), .int .i64 (wrap64 (Int.tdiv (wrap64 (rd l0 (ji13))) 16)), .int .i64 t364, .int .i64 t366] 40 (0, 0)) bk_ hb); have n3_ := bl_ hb; clear HO_4; clear BK367; clear HB; have HO_4 := n0_; have HO375 := n1_; have BK367 := n2_; have HB := n3_; clear n0_ n1_ n2_ n3_; (try clear hb); (try clear hk); (try clear ho0)))
        go_loopg [7, 8] kj38 (fun kq v7 v8 w' => ∃ (x7_4 : List Int) (x8_4 : Int), v8 = .int .i64 x8_4 ∧ Aside0 (lockgateref02_Get.l1 kq l0 x4_1 x5_1 x7_4 x8_4 (wrap64 (rd l0 x5_1)) (Int.tmod (wrap64 (rd l0 (ji13))) 16) (wrap64 (Int.tdiv (wrap64 (rd l0 (ji13))) 16)) t364 t366 = some (r1, r2)) ∧ Aside0 (kq ≤ kj38) ∧ Aside0 (Kd.R k40 40 w' w.heap.size (fun k_ => k_ ≠ gb367) (.slice Ao6 x4_1.length co6) x4_1) ∧ Aside0 (Kd.R (Kd.int .u8) 5 w' w.heap.size (fun _ => True) v7 x7_4) ∧ Aside0 (w'.heap[gb367]? = some (.cells #[.int .i64 (wrap64 (rd l0 x5_1)), .int .i64 (Int.tmod (wrap64 (rd l0 (ji13))) 16), .int .i64 (wrap64 (Int.tdiv (wrap64 (rd l0 (ji13))) 16)), .int .i64 t364, .int .i64 t366] 40 (0, 0))) ∧ Aside0 (Below w.heap.size w w'))
        case atStart => exact ⟨(t373), (12), vs_, H', ⟨Nat.le_refl _⟩, ⟨by (with_reducible repeat (first | apply Kd.R_alloc | apply Kd.R_drewN | apply Kd.R_drew)); exact HO_4.out⟩, ⟨by (with_reducible repeat (first | apply Kd.R_alloc | apply Kd.R_drewN | apply Kd.R_drew)); exact HO375.out⟩, ⟨bk_⟩, ⟨bz_⟩⟩
        case round =>
         clear H'
         try clear c1
         try clear c2
         try clear p2
         try clear c3
         try clear p3
         try clear q3
         try clear hx3
         try clear c4
         try clear c5
         try clear p6
         try clear c18
         try clear c18b0
         try clear c18b1
         try clear c19
         try clear c19b0
         try clear c19b1
         try clear c23
         try clear c23b0
         try clear c23b1
         try clear c24
         try clear c24b0
         try clear c24b1
         try clear c36
         try clear p36
         try clear q36
         try clear hx36
         try clear p37
         try clear q37
         try clear hx37
         try clear c38
         try clear c38b0
         try clear c38b1
         try clear c41
         try clear c41b0
         try clear c42
         try clear c42b0
         try clear c43
         try clear c43b0
         try clear c43b1
         try clear c45
         try clear c45b0
         try clear c46
         try clear c46b0
         try clear c47
         try clear c47b0
         try clear c47b1
         try clear c49
         try clear c49b0
         try clear c50
         try clear c50b0
         try clear c51
         try clear c51b0
         try clear c51b1
         try clear c53
         try clear c53b0
         try clear c54
         try clear c54b0
         try clear c55
         try clear c57
         try clear c57b0
         try clear c57b1
         try clear c58
         try clear c58b0
         try clear c58b1
         try clear c59
         try clear c59b0
         try clear c59b1
         try clear zc37_0
         try clear zc37_1
         try clear zc37_2
         try clear zc37_3
         try clear zc37_4
         try clear zf37_0
         try clear zf37_1
         try clear zf37_2
         try clear zf37_3
         try clear zf37_4
         try clear hx368_0
         try clear hx369_0
         try clear hx370_0
         try clear hx371_0
         try clear p2
         try clear p3
         try clear p36
         try clear p368
         try clear p369
         try clear p37
         try clear p370
         try clear p371
         try clear p6
         try clear q3
         try clear q36
         try clear q368
         try clear q369
         try clear q37
         try clear q370
         try clear q371
         obtain ⟨x7_4, x8_4, rfl, HA, HK4, HO_4, HO_7, BK367, HB⟩ := hrel
         cases gk with
         | zero => exact absurd HA.out (by simp [lockgateref02_Get.l1])
         | succ k4 =>
          have H := HA.out
          clear HA
          simp only [lockgateref02_Get.l1] at H
          by_cases c63 : x8_4 < 16
          ·rw [if_pos c63] at H
           have c63b0 : decide (x8_4 < 16) = true := decide_eq_true c63
           clear c63
           obtain ⟨ji64, hji64⟩ : ∃ j_ : Int, (wrap64 (x5_1 + x8_4)) = j_ := ⟨_, rfl⟩
           replace H : (if 0 ≤ (ji64) then (if (ji64) < (l0.length : Int) then (if x7_4.length < 140737488355328 then (lockgateref02_Get.l1 k4 l0 x4_1 x5_1 (x7_4 ++ [rd l0 (ji64)]) (wrap64 (x8_4 + 1)) (wrap64 (rd l0 x5_1)) (Int.tmod (wrap64 (rd l0 (ji13))) 16) (wrap64 (Int.tdiv (wrap64 (rd l0 (ji13))) 16)) t364 t366) else (none)) else (none)) else (none)) = some (r1, r2) := by first | (rw [hji64] at H; exact H) | (simp only [hji64] at H ⊢; exact H)
           have hji64w : (IntKind.i64.wrap (x5_1 + x8_4)) = ji64 := (i64_w _).trans hji64
           by_cases c65 : 0 ≤ (ji64)
           ·rw [if_pos c65] at H
            have c65b0 : decide (0 ≤ (ji64)) = true := decide_eq_true c65
            clear c65
            by_cases c66 : (ji64) < (l0.length : Int)
            ·rw [if_pos c66] at H
             have c66b0 : decide ((ji64) < (l0.length : Int)) = true := decide_eq_true c66
             clear c66
             by_cases c67 : x7_4.length < 140737488355328
             ·rw [if_pos c67] at H
              have LMc67 := Aside0.mk c67
              clear c67
              obtain ⟨y377, hy377⟩ : ∃ Y : List Int, Y = (x7_4 ++ [rd l0 (ji64)]) := ⟨_, rfl⟩
              replace H : (lockgateref02_Get.l1 k4 l0 x4_1 x5_1 y377 (wrap64 (x8_4 + 1)) (wrap64 (rd l0 x5_1)) (Int.tmod (wrap64 (rd l0 (ji13))) 16) (wrap64 (Int.tdiv (wrap64 (rd l0 (ji13))) 16)) t364 t366) = some (r1, r2) := by first | (rw [hy377]; with_reducible exact H) | (have H2_ := (Option.bind_some _ _).symm.trans H; rw [hy377]; with_reducible exact H2_) | (have H2_ := (Option.bind_some _ _).symm.trans H; with_reducible exact H2_) | with_reducible exact H | (rw [hy377]; exact H) | exact H
              have Ny377 := Aside0.mk hy377
              clear hy377
              have H' := Aside0.mk H
              clear H
              have p376 : 0 ≤ ((ji64) : Int) := of_decide_eq_true as_
              have q376 : (ji64) < (l0.length : Int) := of_decide_eq_true as_
              obtain ⟨ad376, e376, hx376_0⟩ := Kd.at_int HR0.out (ji64) p376 q376
              obtain rfl : ad360 = ad376 := (by injection e376)
              replace hx376_0 := (hc_ HB hx376_0 :)
              replace p376 := eq_true p376
              replace q376 := eq_true q376
              go_wp2_with (first | ((with_reducible refine gate_builtin (b := .append) (xs := #[.tmp 114, .tmp 121]) rfl ?_); (try (refine gate_guard (by rfl) ?_; dsimp only)); at_builtin; refine Kd.R_append (Kd.int .u8) (w0 := w) w.heap.size rfl (.tmp 114) (.tmp 121) 25 5 (.int .u8 0) 1 rfl Try.underlying25 info5 rfl (by decide) (by omega) u7 x7_4 (rd l0 (ji64)) [.int .u8 (rd l0 (ji64))] (fun _ => True) (fun _ => False) rfl rfl ?aP (fun _ hk => hk.elim) ?aF ?aO ?aB ?aS ?aL ?_; (case aP => exact rfl); (case aB => exact bz_); (case aF => exact (fun _ _ => trivial)); (case aO => exact (ra_ HO_7.out)); (case aS => exact (below_size bz_)); (case aL => have := LMc67.out; omega); intro v378 w68 ho hb hg hat; rw [← Ny377.out] at ho; have n0_ := Aside0.mk (Kd.R_over' (ra_ HO_4.out) (Kd.R_typed (ra_ HO_7.out)) (by decide) hg); have n1_ := Aside0.mk (blk_grown (g := gb367) (o := .cells #[.int .i64 (wrap64 (rd l0 x5_1)), .int .i64 (Int.tmod (wrap64 (rd l0 (ji13))) 16), .int .i64 (wrap64 (Int.tdiv (wrap64 (rd l0 (ji13))) 16)), .int .i64 t364, .int .i64 t366] 40 (0, 0)) bk_ hg (Kd.R_ne HO_7.out BK367.out (by decide))); have n2_ := Aside0.mk (hb); have n3_ := Aside0.mk (ho); clear HO_4; clear BK367; clear HB; clear HO_7; have HO_4 := n0_; have BK367 := n1_; have HB := n2_; have HO379 := n3_; clear n0_ n1_ n2_ n3_; clear ho hb hg hat))
              go_roundg k4
              case measure => have := HK1.out; have := HJ4.out; have := HJ38.out; have := HK4.out; omega
              case rel => exact ⟨(y377), (wrap64 (x8_4 + 1)), vs_, H', ⟨by have := HK1.out; have := HJ4.out; have := HJ38.out; have := HK4.out; omega⟩, ⟨by (with_reducible repeat (first | apply Kd.R_alloc | apply Kd.R_drewN | apply Kd.R_drew)); exact HO_4.out⟩, ⟨by (with_reducible repeat (first | apply Kd.R_alloc | apply Kd.R_drewN | apply Kd.R_drew)); exact HO379.out⟩, ⟨bk_⟩, ⟨bz_⟩⟩
             rw [if_neg c67] at H
             exact absurd H (by simp)
            rw [if_neg c66] at H
            exact absurd H (by simp)
           rw [if_neg c65] at H
           exact absurd H (by simp)
          rw [if_neg c63] at H
          have c63b0 : decide (x8_4 < 16) = false := decide_eq_false c63
          clear c63
          replace H := Option.bind_eq_some_iff.mp H
          obtain ⟨t380, A690, H⟩ := H
          (try dsimp only at H)
          have A69 := Aside0.mk A690
          clear A690
          have H' := Aside0.mk H
          clear H
          obtain ⟨Ao70, co70, eo70⟩ := Kd.R_slice HO_7.out
          subst eo70
          go_wp2_with (first | ((with_reducible refine gate_callee (f := 38) rfl ?_); refine goesL_ (some 124) rfl rfl Try.func38 (by kernel_rfl) rfl #[.slice Ao70 x7_4.length co70] rfl (by (try simp only [List.map_toArray, List.map_cons, List.map_nil]); first | done | rfl | (simp only [List.length_drop, List.length_take]; rfl)) ?_; (with_reducible refine (lockgateref02_signed.calls k4 _ _ x7_4 t380 _ ?side1 ?side2 A69.out).mono ?_); (case side1 => exact ca_ ((Kd.R_reads' HO_7.out).2.2)); (case side2 => exact (Kd.R_reads' HO_7.out).2.1); rintro e w' ⟨rfl, ⟨nd, rfl⟩⟩; refine ⟨_, rfl, ?_⟩; (try (rw [drewN_self wr]; generalize hq_ : World.drewN wr _ = wr; have n0_ : Aside0 (Kd.R k40 40 wr w.heap.size (fun k_ => k_ ≠ gb367) (.slice Ao6 x4_1.length co6) x4_1) := ⟨by rw [← hq_]; exact (ra_ HO_4.out)⟩; have n1_ : Aside0 (Kd.R (Kd.int .u8) 5 wr w.heap.size (fun _ => True) (.slice Ao70 x7_4.length co70) x7_4) := ⟨by rw [← hq_]; exact (ra_ HO_7.out)⟩; have n2_ : Aside0 (wr.heap[gb367]? = some (.cells #[.int .i64 (wrap64 (rd l0 x5_1)), .int .i64 (Int.tmod (wrap64 (rd l0 (ji13))) 16), .int .i64 (wrap64 (Int.tdiv (wrap64 (rd l0 (ji13))) 16)), .int .i64 t364, .int .i64 t366] 40 (0, 0))) := ⟨by rw [← hq_]; exact bk_⟩; have n3_ : Aside0 (Below w.heap.size w wr) := ⟨by rw [← hq_]; exact bz_⟩; clear HO_4 HO_7 BK367 HB hq_; have HO_4 := n0_; have HO_7 := n1_; have BK367 := n2_; have HB := n3_; clear n0_ n1_ n2_ n3_)); obtain ⟨zc71_0, zc71_1, zc71_2, zc71_3, zc71_4, zf71_0, zf71_1, zf71_2, zf71_3, zf71_4⟩ := k5_ BK367))
          (first | go_meet | ((try subst hji56); (try subst hji21); (try subst hji16); (try subst hji13); go_meet))
          case rel => exact ⟨_, (t380), H', ⟨by have := HK1.out; have := HJ4.out; have := HJ38.out; have := HK4.out; first | omega | exact Nat.le_refl _⟩, ⟨by (with_reducible repeat (first | apply Kd.R_alloc | apply Kd.R_drewN | apply Kd.R_drew)); exact Kd.R_mono (Kd.R_far (p := ⟨gb367, 4, none⟩) (Kd.R_mono HO_4.out (fun k_ hk => (⟨hk, hk⟩ : _ ∧ k_ ≠ gb367))) (fun _ hk => hk.2) (.int .i64 t380)) (fun _ hk => hk.1)⟩, ⟨by (with_reducible repeat (first | apply bN_ | apply bD_ | apply bA_)); refine blk_put (cs := #[.int .i64 (wrap64 (rd l0 x5_1)), .int .i64 (Int.tmod (wrap64 (rd l0 (ji13))) 16), .int .i64 (wrap64 (Int.tdiv (wrap64 (rd l0 (ji13))) 16)), .int .i64 t364, .int .i64 t366]) ?_ 4 _ rfl; exact bk_⟩, ⟨bz_⟩⟩
     case rest =>
      clear HC26
      try clear c1
      try clear c2
      try clear p2
      try clear c3
      try clear p3
      try clear q3
      try clear hx3
      try clear c4
      try clear c5
      try clear c6
      try clear p6
      try clear c18
      try clear c18b0
      try clear c18b1
      try clear c19
      try clear c19b0
      try clear c19b1
      try clear c23
      try clear c23b0
      try clear c23b1
      try clear c24
      try clear c24b0
      try clear c24b1
      try clear c36
      try clear p36
      try clear q36
      try clear hx36
      try clear p37
      try clear q37
      try clear hx37
      try clear c38
      try clear c38b0
      try clear c38b1
      try clear c41
      try clear c41b0
      try clear c42
      try clear c42b0
      try clear c43
      try clear c43b0
      try clear c43b1
      try clear c45
      try clear c45b0
      try clear c46
      try clear c46b0
      try clear c47
      try clear c47b0
      try clear c47b1
      try clear c49
      try clear c49b0
      try clear c50
      try clear c50b0
      try clear c51
      try clear c51b0
      try clear c51b1
      try clear c53
      try clear c53b0
      try clear c54
      try clear c54b0
      try clear c55
      try clear c57
      try clear c57b0
      try clear c57b1
      try clear c58
      try clear c58b0
      try clear c58b1
      try clear c59
      try clear c59b0
      try clear c59b1
      try clear c63
      try clear c63b0
      try clear p64
      try clear c65
      try clear c65b0
      try clear c66
      try clear c66b0
      try clear c67
      try clear zc37_0
      try clear zc37_1
      try clear zc37_2
      try clear zc37_3
      try clear zc37_4
      try clear zc71_0
      try clear zc71_1
      try clear zc71_2
      try clear zc71_3
      try clear zc71_4
      try clear zf37_0
      try clear zf37_1
      try clear zf37_2
      try clear zf37_3
      try clear zf37_4
      try clear zf71_0
      try clear zf71_1
      try clear zf71_2
      try clear zf71_3
      try clear zf71_4
      try clear hx368_0
      try clear hx369_0
      try clear hx370_0
      try clear hx371_0
      try clear hx376_0
      try clear p2
      try clear p3
      try clear p36
      try clear p368
      try clear p369
      try clear p37
      try clear p370
      try clear p371
      try clear p376
      try clear p6
      try clear q3
      try clear q36
      try clear q368
      try clear q369
      try clear q37
      try clear q370
      try clear q371
      try clear q376
      obtain ⟨kq, x368004_25, HA, HJ25, HO_4, BK367, HB⟩ := hcut
      cases kq with
      | zero => exact absurd HA.out (by simp [lockgateref02_Get.j4])
      | succ kj25 =>
       have H := HA.out
       clear HA
       simp only [lockgateref02_Get.j4] at H
       replace H := Option.bind_eq_some_iff.mp H
       obtain ⟨t381, A720, H⟩ := H
       (try dsimp only at H)
       have A72 := Aside0.mk A720
       clear A720
       by_cases c73 : t381 = 0
       ·rw [if_pos c73] at H
        have c73b0 : (t381 == 0) = true := beq_iff_eq.mpr c73
        have c73b1 : (t381 != 0) = false := bne_eq_false_iff_eq.mpr c73
        clear c73
        by_cases c74 : x4_1.length < 3518437208883
        ·rw [if_pos c74] at H
         have LMc74 := Aside0.mk c74
         clear c74
         obtain ⟨y382, hy382⟩ : ∃ Y : List (S40), Y = (x4_1 ++ [(⟨(wrap64 (rd l0 x5_1)), (Int.tmod (wrap64 (rd l0 (ji13))) 16), (wrap64 (Int.tdiv (wrap64 (rd l0 (ji13))) 16)), t364, x368004_25⟩ : S40)]) := ⟨_, rfl⟩
         replace H : ((lockgateref02_Size.f (wrap64 (rd l0 x5_1)) (Int.tmod (wrap64 (rd l0 (ji13))) 16) (wrap64 (Int.tdiv (wrap64 (rd l0 (ji13))) 16)) t364 x368004_25).bind fun t385 => (lockgateref02_Get.l0 kj25 l0 y382 (wrap64 (x5_1 + (wrap64 (8 * t385)))))) = some (r1, r2) := by first | (rw [hy382]; with_reducible exact H) | (have H2_ := (Option.bind_some _ _).symm.trans H; rw [hy382]; with_reducible exact H2_) | (have H2_ := (Option.bind_some _ _).symm.trans H; with_reducible exact H2_) | with_reducible exact H | (rw [hy382]; exact H) | exact H
         have Ny382 := Aside0.mk hy382
         clear hy382
         replace H := Option.bind_eq_some_iff.mp H
         obtain ⟨t385, A750, H⟩ := H
         (try dsimp only at H)
         have A75 := Aside0.mk A750
         clear A750
         have H' := Aside0.mk H
         clear H
         obtain ⟨zc76_0, zc76_1, zc76_2, zc76_3, zc76_4, zf76_0, zf76_1, zf76_2, zf76_3, zf76_4⟩ := k5_ BK367
         go_wp2_with (first | ((with_reducible refine gate_callee (f := 28) rfl ?_); refine goesL_ (some 127) rfl rfl Try.func28 (by kernel_rfl) rfl #[.agg #[.int .i64 (wrap64 (rd l0 x5_1)), .int .i64 (Int.tmod (wrap64 (rd l0 (ji13))) 16), .int .i64 (wrap64 (Int.tdiv (wrap64 (rd l0 (ji13))) 16)), .int .i64 t364, .int .i64 x368004_25]] rfl (by (try simp only [List.map_toArray, List.map_cons, List.map_nil]); first | done | (simp only [hji13]; rfl) | rfl | (simp only [List.length_drop, List.length_take]; rfl)) ?_; (with_reducible refine (lockgateref02_Check.calls kj25 (wrap64 (rd l0 x5_1)) (Int.tmod (wrap64 (rd l0 (ji13))) 16) (wrap64 (Int.tdiv (wrap64 (rd l0 (ji13))) 16)) t364 x368004_25 t381 _ A72.out).mono ?_); rintro e w77 ⟨rfl, hb⟩; refine ⟨_, rfl, ?_⟩; have n0_ := Aside0.mk (Kd.R_below (ra_ HO_4.out) hb); have n1_ := Aside0.mk (blk_below (g := gb367) (o := .cells #[.int .i64 (wrap64 (rd l0 x5_1)), .int .i64 (Int.tmod (wrap64 (rd l0 (ji13))) 16), .int .i64 (wrap64 (Int.tdiv (wrap64 (rd l0 (ji13))) 16)), .int .i64 t364, .int .i64 x368004_25] 40 (0, 0)) bk_ hb); have n2_ := bl_ hb; clear HO_4; clear BK367; clear HB; have HO_4 := n0_; have BK367 := n1_; have HB := n2_; clear n0_ n1_ n2_; (try clear hb); (try clear hk); obtain ⟨zc78_0, zc78_1, zc78_2, zc78_3, zc78_4, zf78_0, zf78_1, zf78_2, zf78_3, zf78_4⟩ := k5_ BK367) | ((with_reducible refine gate_builtin (b := .append) (xs := #[.tmp 131, .tmp 133]) rfl ?_); (try (refine gate_guard (by rfl) ?_; dsimp only)); at_builtin; refine Kd.R_append k40 (w0 := w) w.heap.size rfl (.tmp 131) (.tmp 133) 22 40 (.agg #[(.int .i64 0), (.int .i64 0), (.int .i64 0), (.int .i64 0), (.int .i64 0)]) 40 rfl Try.underlying22 info40 rfl (by decide) (by omega) (.slice Ao6 x4_1.length co6) x4_1 (⟨(wrap64 (rd l0 x5_1)), (Int.tmod (wrap64 (rd l0 (ji13))) 16), (wrap64 (Int.tdiv (wrap64 (rd l0 (ji13))) 16)), t364, x368004_25⟩ : S40) [.int .i64 (wrap64 (rd l0 x5_1)), .int .i64 (Int.tmod (wrap64 (rd l0 (ji13))) 16), .int .i64 (wrap64 (Int.tdiv (wrap64 (rd l0 (ji13))) 16)), .int .i64 t364, .int .i64 x368004_25] (fun k_ => k_ ≠ gb367) (fun _ => False) rfl rfl ?aP (fun _ hk => hk.elim) ?aF ?aO ?aB ?aS ?aL ?_; (case aP => exact k40_mkM _ _ _ (⟨(wrap64 (rd l0 x5_1)), (Int.tmod (wrap64 (rd l0 (ji13))) 16), (wrap64 (Int.tdiv (wrap64 (rd l0 (ji13))) 16)), t364, x368004_25⟩ : S40)); (case aB => exact bz_); (case aF => exact (fun k_ hk => Kd.freshB (g := gb367) (o := .cells #[.int .i64 (wrap64 (rd l0 x5_1)), .int .i64 (Int.tmod (wrap64 (rd l0 (ji13))) 16), .int .i64 (wrap64 (Int.tdiv (wrap64 (rd l0 (ji13))) 16)), .int .i64 t364, .int .i64 x368004_25] 40 (0, 0)) bk_ k_ hk)); (case aO => exact (ra_ HO_4.out)); (case aS => exact (below_size bz_)); (case aL => have := LMc74.out; omega); intro v383 w79 ho hb hg hat; rw [← Ny382.out] at ho; have n0_ := Aside0.mk (blk_grown (g := gb367) (o := .cells #[.int .i64 (wrap64 (rd l0 x5_1)), .int .i64 (Int.tmod (wrap64 (rd l0 (ji13))) 16), .int .i64 (wrap64 (Int.tdiv (wrap64 (rd l0 (ji13))) 16)), .int .i64 t364, .int .i64 x368004_25] 40 (0, 0)) bk_ hg (Kd.R_away HO_4.out (fun _ hk => hk))); have n1_ := Aside0.mk (hb); have n2_ := Aside0.mk (ho); clear BK367; clear HB; clear HO_4; have BK367 := n0_; have HB := n1_; have HO384 := n2_; clear n0_ n1_ n2_; clear ho hb hg hat; obtain ⟨zc80_0, zc80_1, zc80_2, zc80_3, zc80_4, zf80_0, zf80_1, zf80_2, zf80_3, zf80_4⟩ := k5_ BK367) | ((with_reducible refine gate_callee (f := 29) rfl ?_); refine goesL_ (some 137) rfl rfl Try.func29 (by kernel_rfl) rfl #[.agg #[.int .i64 (wrap64 (rd l0 x5_1)), .int .i64 (Int.tmod (wrap64 (rd l0 (ji13))) 16), .int .i64 (wrap64 (Int.tdiv (wrap64 (rd l0 (ji13))) 16)), .int .i64 t364, .int .i64 x368004_25]] rfl (by (try simp only [List.map_toArray, List.map_cons, List.map_nil]); first | done | (simp only [hji13]; rfl) | rfl | (simp only [List.length_drop, List.length_take]; rfl)) ?_; (with_reducible refine (lockgateref02_Size.calls (wrap64 (rd l0 x5_1)) (Int.tmod (wrap64 (rd l0 (ji13))) 16) (wrap64 (Int.tdiv (wrap64 (rd l0 (ji13))) 16)) t364 x368004_25 t385 _ A75.out).mono ?_); rintro e w81 ⟨rfl, hb⟩; refine ⟨_, rfl, ?_⟩; have n0_ := Aside0.mk (Kd.R_below (ra_ HO384.out) hb); have n1_ := Aside0.mk (blk_below (g := gb367) (o := .cells #[.int .i64 (wrap64 (rd l0 x5_1)), .int .i64 (Int.tmod (wrap64 (rd l0 (ji13))) 16), .int .i64 (wrap64 (Int.tdiv (wrap64 (rd l0 (ji13))) 16)), .int .i64 t364, .int .i64 x368004_25] 40 (0, 0)) bk_ hb); have n2_ := bl_ hb; clear HO384; clear BK367; clear HB; have HO384 := n0_; have BK367 := n1_; have HB := n2_; clear n0_ n1_ n2_; (try clear hb); (try clear hk); ))
         go_roundg kj25
         case measure => have := HK1.out; have := HJ4.out; have := HJ25.out; omega
         case rel => exact ⟨(y382), (wrap64 (x5_1 + (wrap64 (8 * t385)))), vs_, H', ⟨by have := HK1.out; have := HJ4.out; have := HJ25.out; omega⟩, ⟨by (with_reducible repeat (first | apply Kd.R_alloc | apply Kd.R_drewN | apply Kd.R_drew)); exact Kd.R_mono HO384.out (fun _ hk => trivial)⟩, ⟨bz_⟩⟩
        rw [if_neg c74] at H
        exact absurd H (by simp)
       rw [if_neg c73] at H
       have c73b0 : (t381 == 0) = false := beq_eq_false_iff_ne.mpr c73
       have c73b1 : (t381 != 0) = true := bne_iff_ne.mpr c73
       simp only [Option.some.injEq, Prod.mk.injEq] at H
       obtain ⟨rfl, rfl⟩ := H
       obtain ⟨zc82_0, zc82_1, zc82_2, zc82_3, zc82_4, zf82_0, zf82_1, zf82_2, zf82_3, zf82_4⟩ := k5_ BK367
       go_wp2_with (first | ((with_reducible refine gate_callee (f := 28) rfl ?_); refine goesL_ (some 127) rfl rfl Try.func28 (by kernel_rfl) rfl #[.agg #[.int .i64 (wrap64 (rd l0 x5_1)), .int .i64 (Int.tmod (wrap64 (rd l0 (ji13))) 16), .int .i64 (wrap64 (Int.tdiv (wrap64 (rd l0 (ji13))) 16)), .int .i64 t364, .int .i64 x368004_25]] rfl (by (try simp only [List.map_toArray, List.map_cons, List.map_nil]); first | done | (simp only [hji13]; rfl) | rfl | (simp only [List.length_drop, List.length_take]; rfl)) ?_; (with_reducible refine (lockgateref02_Check.calls kj25 (wrap64 (rd l0 x5_1)) (Int.tmod (wrap64 (rd l0 (ji13))) 16) (wrap64 (Int.tdiv (wrap64 (rd l0 (ji13))) 16)) t364 x368004_25 t381 _ A72.out).mono ?_); rintro e w83 ⟨rfl, hb⟩; refine ⟨_, rfl, ?_⟩; have n0_ := Aside0.mk (Kd.R_below (ra_ HO_4.out) hb); have n1_ := Aside0.mk (blk_below (g := gb367) (o := .cells #[.int .i64 (wrap64 (rd l0 x5_1)), .int .i64 (Int.tmod (wrap64 (rd l0 (ji13))) 16), .int .i64 (wrap64 (Int.tdiv (wrap64 (rd l0 (ji13))) 16)), .int .i64 t364, .int .i64 x368004_25] 40 (0, 0)) bk_ hb); have n2_ := bl_ hb; clear HO_4; clear BK367; clear HB; have HO_4 := n0_; have BK367 := n1_; have HB := n2_; clear n0_ n1_ n2_; (try clear hb); (try clear hk); ))
       go_ret2
       exact ⟨_, by first | rfl | (simp [errW_none, errW_some] <;> rfl) | (simp only [← hji13, ← hji16, ← hji21]; first | rfl | (simp [errW_none, errW_some] <;> rfl)) | (simp [*, errW_none, errW_some] <;> rfl), by first | exact Kd.R_nil _ _ _ _ _ | exact Kd.N_nil _ _ _ _ _ | exact Kd.V_nil _ _ _ _ _ | exact Kd.Q_nil _ _ _ _ _ | exact Kd.S_nil _ _ _ _ _, bz_⟩
end Go.Proofs.Yticijjonimiooaa.PA
