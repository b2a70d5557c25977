-- PRINTED by print.py (a twelfth state) out of the translation. Not trusted: Lean checks it.
import Derived.Test.YtkcneaaoghgllaaWRepsOne
import Derived.Test.YtkcneaaoghgllaaWGuard
import Derived.Test.YtkcneaaoghgllaaPA0
import Derived.Test.YtkcneaaoghgllaaSq
import Derived.Test.YtkcneaaoghgllaaPA17
import Derived.Test.YtkcneaaoghgllaaPA20
import Derived.Test.YtkcneaaoghgllaaPA21
import Derived.Test.YtkcneaaoghgllaaPA22
import Derived.Test.YtkcneaaoghgllaaPA23
namespace Go.Proofs.Ytkcneaaoghgllaa.PA
open Go.RowKit Go.Proofs.YtkcneaaoghgllaaW.PrintWords Go.Proofs.YtkcneaaoghgllaaW.PrintLast Go.Proofs.YtkcneaaoghgllaaW.PrintMore
attribute [local go_sem] max2_int min2_int max_two min_two max_three min_three max_four min_four   -- for this text's walks alone
set_option linter.unusedVariables false
set_option linter.unusedSimpArgs false

/-! ### lockgatelaw06_FlowKnown: function 7 -/
mutual
def lockgatelaw06_FlowKnown.l0 : Nat → List Int → Int → Option (Bool)
 | 0, _, _ => none
 | k + 1, x1, x2 => if x2 < (x1.length : Int) then (lockgatelaw06_FlowKnown.l1 k x1 x2 (-7)) else (lockgatelaw06_FlowKnown.l3 k ([] : List (S42)) 0)
def lockgatelaw06_FlowKnown.l1 : Nat → List Int → Int → Int → Option (Bool)
 | 0, _, _, _ => none
 | k + 1, x1, x2, x3 => if x3 ≤ 7 then (if 0 ≤ x2 then (if x2 < (x1.length : Int) then (lockgatelaw06_FlowKnown.l2 k x1 x2 x3 (([(⟨183, 0, 0, 0, 0⟩ : S42), (⟨24, 0, 0, 0, 0⟩ : S42), (⟨rd x1 x2, 0, 0, x3, 0⟩ : S42), (⟨24, 0, 0, 0, 0⟩ : S42), (⟨149, 0, 0, 0, 0⟩ : S42)] : List (S42))) (-1)) else (none)) else (none)) else (lockgatelaw06_FlowKnown.l0 k x1 (wrap64 (x2 + 1)))
def lockgatelaw06_FlowKnown.l2 : Nat → List Int → Int → Int → List (S42) → Int → Option (Bool)
 | 0, _, _, _, _, _ => none
 | k + 1, x1, x2, x3, x4, x5 => if x5 ≤ 5 then ((lockgatelaw06_FlowTells.f k x4 x5).bind fun t542 => (if t542 = true then (lockgatelaw06_FlowKnown.l2 k x1 x2 x3 x4 (wrap64 (x5 + 1))) else (some false))) else ((lockgatelaw06_FlowLands.f k x4).bind fun t543 => (if t543 = true then ((lockgatelaw06_FlowInside.f k x4).bind fun t544 => (if t544 = true then ((lockgatelaw06_FlowMoved.f k x4 x3).bind fun t545 => (if t545 = true then (if 3 ≤ (x4.length : Int) then ((lockgatelaw06_FlowTells.f k (x4.take 3) 2).bind fun t550 => (if t550 = true then ((lockgatelaw06_FlowLands.f k (x4.take 3)).bind fun t555 => (if t555 = true then (if 1 ≤ 3 then ((lockgatelaw06_FlowLands.f k ((x4.take 3).drop 1)).bind fun t560 => (if t560 = true then ((lockgatelaw06_FlowTells.f k ((x4.take 3).drop 1) 0).bind fun t565 => (if t565 = true then (lockgatelaw06_FlowKnown.l1 k x1 x2 (wrap64 (x3 + 1))) else (some false))) else (some false))) else (none)) else (some false))) else (some false))) else (none)) else (some false))) else (some false))) else (some false)))
def lockgatelaw06_FlowKnown.l3 : Nat → List (S42) → Int → Option (Bool)
 | 0, _, _ => none
 | k + 1, x6, x7 => if x7 < 257 then (if x6.length < 3518437208883 then (lockgatelaw06_FlowKnown.l3 k (x6 ++ [(⟨5, 0, 0, wrap64 ((Int.tmod (wrap64 (x7 * 37)) 11) - 5), 0⟩ : S42)]) (wrap64 (x7 + 1))) else (none)) else (if 0 < (x6.length : Int) then (lockgatelaw06_FlowKnown.l4 k (x6.set (0 : Int).toNat (⟨(rd_T42 x6 0).f0, (rd_T42 x6 0).f1, (rd_T42 x6 0).f2, 2, (rd_T42 x6 0).f4⟩ : S42)) 0) else (none))
def lockgatelaw06_FlowKnown.l4 : Nat → List (S42) → Int → Option (Bool)
 | 0, _, _ => none
 | k + 1, x6, x8 => if x8 < 6 then (if 0 ≤ x8 then (if x8 < (x6.length : Int) then ((some (x6.set (x8 : Int).toNat (⟨(rd_T42 x6 x8).f0, (rd_T42 x6 x8).f1, (rd_T42 x6 x8).f2, 3, (rd_T42 x6 x8).f4⟩ : S42) : List (S42))).bind fun y570 => (if 0 ≤ (wrap64 (256 - x8)) then (if (wrap64 (256 - x8)) < (x6.length : Int) then ((some (y570.set ((wrap64 (256 - x8)) : Int).toNat (⟨(rd_T42 y570 (wrap64 (256 - x8))).f0, (rd_T42 y570 (wrap64 (256 - x8))).f1, (rd_T42 y570 (wrap64 (256 - x8))).f2, (-4), (rd_T42 y570 (wrap64 (256 - x8))).f4⟩ : S42) : List (S42))).bind fun y571 => (if 0 ≤ (wrap64 (255 - x8)) then (if (wrap64 (255 - x8)) < (x6.length : Int) then (lockgatelaw06_FlowKnown.l4 k (y571.set ((wrap64 (255 - x8)) : Int).toNat (⟨(rd_T42 y571 (wrap64 (255 - x8))).f0, (rd_T42 y571 (wrap64 (255 - x8))).f1, (rd_T42 y571 (wrap64 (255 - x8))).f2, (-4), (rd_T42 y571 (wrap64 (255 - x8))).f4⟩ : S42)) (wrap64 (x8 + 1))) else (none)) else (none))) else (none)) else (none))) else (none)) else (none)) else ((lockgatelaw06_FlowTells.f k x6 3).bind fun t573 => (if t573 = true then (if 256 ≤ (x6.length : Int) then ((lockgatelaw06_FlowTells.f k (x6.take 256) 3).bind fun t578 => (if t578 = true then ((lockgatelaw06_FlowLands.f k x6).bind fun t579 => (if t579 = true then ((lockgatelaw06_FlowInside.f k (x6.take 256)).bind fun t584 => (if t584 = true then ((lockgatelaw06_FlowTells.f k ([] : List (S42)) 0).bind fun t585 => (if t585 = true then ((lockgatelaw06_FlowLands.f k ([] : List (S42))).bind fun t586 => (if t586 = true then ((lockgatelaw06_FlowTells.f k (([(⟨183, 0, 0, 0, 0⟩ : S42)] : List (S42))) 0).bind fun t590 => (if t590 = true then ((lockgatelaw06_works.f k).bind fun t591 => (some t591)) else (some false))) else (some false))) else (some false))) else (some false))) else (some false))) else (some false))) else (none)) else (some false)))
end
def lockgatelaw06_FlowKnown.f (k : Nat)  : Option (Bool) := lockgatelaw06_FlowKnown.l0 k (([5, 21, 29, 22, 222, 133, 149, 13, 229, 6] : List Int)) 0
theorem lockgatelaw06_FlowKnown.mono_l : ∀ k, (∀ y0 y1, LeO (lockgatelaw06_FlowKnown.l0 k y0 y1) (lockgatelaw06_FlowKnown.l0 (k + 1) y0 y1)) ∧ (∀ y0 y1 y2, LeO (lockgatelaw06_FlowKnown.l1 k y0 y1 y2) (lockgatelaw06_FlowKnown.l1 (k + 1) y0 y1 y2)) ∧ (∀ y0 y1 y2 y3 y4, LeO (lockgatelaw06_FlowKnown.l2 k y0 y1 y2 y3 y4) (lockgatelaw06_FlowKnown.l2 (k + 1) y0 y1 y2 y3 y4)) ∧ (∀ y0 y1, LeO (lockgatelaw06_FlowKnown.l3 k y0 y1) (lockgatelaw06_FlowKnown.l3 (k + 1) y0 y1)) ∧ (∀ y0 y1, LeO (lockgatelaw06_FlowKnown.l4 k y0 y1) (lockgatelaw06_FlowKnown.l4 (k + 1) y0 y1))
 | 0 => ⟨fun _ _ r h => by simp [lockgatelaw06_FlowKnown.l0] at h, fun _ _ _ r h => by simp [lockgatelaw06_FlowKnown.l1] at h, fun _ _ _ _ _ r h => by simp [lockgatelaw06_FlowKnown.l2] at h, fun _ _ r h => by simp [lockgatelaw06_FlowKnown.l3] at h, fun _ _ r h => by simp [lockgatelaw06_FlowKnown.l4] at h⟩
 | k + 1 => by
  obtain ⟨ih0, ih1, ih2, ih3, ih4⟩ := lockgatelaw06_FlowKnown.mono_l k
  refine ⟨?_, ?_, ?_, ?_, ?_⟩
  ·intro y0 y1
   unfold lockgatelaw06_FlowKnown.l0
   repeat' first
   | (with_reducible exact ih0 _ _)
   | (with_reducible exact ih1 _ _ _)
   | (with_reducible exact ih2 _ _ _ _ _)
   | (with_reducible exact ih3 _ _)
   | (with_reducible exact ih4 _ _)
   | (with_reducible exact lockgatelaw06_FlowInside.mono _ _)
   | (with_reducible exact lockgatelaw06_FlowLands.mono _ _)
   | (with_reducible exact lockgatelaw06_FlowMoved.mono _ _ _)
   | (with_reducible exact lockgatelaw06_FlowTells.mono _ _ _)
   | (with_reducible exact lockgatelaw06_works.mono _)
   | (with_reducible exact LeO.refl _)
   | (with_reducible exact LeO.none _)
   | (with_reducible refine LeO.ite ?_ ?_)
   | (with_reducible refine LeO.bind ?_ (fun _ => ?_))
   | exact ih0 _ _
   | exact ih1 _ _ _
   | exact ih2 _ _ _ _ _
   | exact ih3 _ _
   | exact ih4 _ _
   | exact lockgatelaw06_FlowInside.mono _ _
   | exact lockgatelaw06_FlowLands.mono _ _
   | exact lockgatelaw06_FlowMoved.mono _ _ _
   | exact lockgatelaw06_FlowTells.mono _ _ _
   | exact lockgatelaw06_works.mono _
   | exact LeO.none _
   | refine LeO.ite ?_ ?_
   | refine LeO.bind ?_ (fun _ => ?_)
  ·intro y0 y1 y2
   unfold lockgatelaw06_FlowKnown.l1
   repeat' first
   | (with_reducible exact ih0 _ _)
   | (with_reducible exact ih1 _ _ _)
   | (with_reducible exact ih2 _ _ _ _ _)
   | (with_reducible exact ih3 _ _)
   | (with_reducible exact ih4 _ _)
   | (with_reducible exact lockgatelaw06_FlowInside.mono _ _)
   | (with_reducible exact lockgatelaw06_FlowLands.mono _ _)
   | (with_reducible exact lockgatelaw06_FlowMoved.mono _ _ _)
   | (with_reducible exact lockgatelaw06_FlowTells.mono _ _ _)
   | (with_reducible exact lockgatelaw06_works.mono _)
   | (with_reducible exact LeO.refl _)
   | (with_reducible exact LeO.none _)
   | (with_reducible refine LeO.ite ?_ ?_)
   | (with_reducible refine LeO.bind ?_ (fun _ => ?_))
   | exact ih0 _ _
   | exact ih1 _ _ _
   | exact ih2 _ _ _ _ _
   | exact ih3 _ _
   | exact ih4 _ _
   | exact lockgatelaw06_FlowInside.mono _ _
   | exact lockgatelaw06_FlowLands.mono _ _
   | exact lockgatelaw06_FlowMoved.mono _ _ _
   | exact lockgatelaw06_FlowTells.mono _ _ _
   | exact lockgatelaw06_works.mono _
   | exact LeO.none _
   | refine LeO.ite ?_ ?_
   | refine LeO.bind ?_ (fun _ => ?_)
  ·intro y0 y1 y2 y3 y4
   unfold lockgatelaw06_FlowKnown.l2
   repeat' first
   | (with_reducible exact ih0 _ _)
   | (with_reducible exact ih1 _ _ _)
   | (with_reducible exact ih2 _ _ _ _ _)
   | (with_reducible exact ih3 _ _)
   | (with_reducible exact ih4 _ _)
   | (with_reducible exact lockgatelaw06_FlowInside.mono _ _)
   | (with_reducible exact lockgatelaw06_FlowLands.mono _ _)
   | (with_reducible exact lockgatelaw06_FlowMoved.mono _ _ _)
   | (with_reducible exact lockgatelaw06_FlowTells.mono _ _ _)
   | (with_reducible exact lockgatelaw06_works.mono _)
   | (with_reducible exact LeO.refl _)
   | (with_reducible exact LeO.none _)
   | (with_reducible refine LeO.ite ?_ ?_)
   | (with_reducible refine LeO.bind ?_ (fun _ => ?_))
   | exact ih0 _ _
   | exact ih1 _ _ _
   | exact ih2 _ _ _ _ _
   | exact ih3 _ _
   | exact ih4 _ _
   | exact lockgatelaw06_FlowInside.mono _ _
   | exact lockgatelaw06_FlowLands.mono _ _
   | exact lockgatelaw06_FlowMoved.mono _ _ _
   | exact lockgatelaw06_FlowTells.mono _ _ _
   | exact lockgatelaw06_works.mono _
   | exact LeO.none _
   | refine LeO.ite ?_ ?_
   | refine LeO.bind ?_ (fun _ => ?_)
  ·intro y0 y1
   unfold lockgatelaw06_FlowKnown.l3
   repeat' first
   | (with_reducible exact ih0 _ _)
   | (with_reducible exact ih1 _ _ _)
   | (with_reducible exact ih2 _ _ _ _ _)
   | (with_reducible exact ih3 _ _)
   | (with_reducible exact ih4 _ _)
   | (with_reducible exact lockgatelaw06_FlowInside.mono _ _)
   | (with_reducible exact lockgatelaw06_FlowLands.mono _ _)
   | (with_reducible exact lockgatelaw06_FlowMoved.mono _ _ _)
   | (with_reducible exact lockgatelaw06_FlowTells.mono _ _ _)
   | (with_reducible exact lockgatelaw06_works.mono _)
   | (with_reducible exact LeO.refl _)
   | (with_reducible exact LeO.none _)
   | (with_reducible refine LeO.ite ?_ ?_)
   | (with_reducible refine LeO.bind ?_ (fun _ => ?_))
   | exact ih0 _ _
   | exact ih1 _ _ _
   | exact ih2 _ _ _ _ _
   | exact ih3 _ _
   | exact ih4 _ _
   | exact lockgatelaw06_FlowInside.mono _ _
   | exact lockgatelaw06_FlowLands.mono _ _
   | exact lockgatelaw06_FlowMoved.mono _ _ _
   | exact lockgatelaw06_FlowTells.mono _ _ _
   | exact lockgatelaw06_works.mono _
   | exact LeO.none _
   | refine LeO.ite ?_ ?_
   | refine LeO.bind ?_ (fun _ => ?_)
  ·intro y0 y1
   unfold lockgatelaw06_FlowKnown.l4
   repeat' first
   | (with_reducible exact ih0 _ _)
   | (with_reducible exact ih1 _ _ _)
   | (with_reducible exact ih2 _ _ _ _ _)
   | (with_reducible exact ih3 _ _)
   | (with_reducible exact ih4 _ _)
   | (with_reducible exact lockgatelaw06_FlowInside.mono _ _)
   | (with_reducible exact lockgatelaw06_FlowLands.mono _ _)
   | (with_reducible exact lockgatelaw06_FlowMoved.mono _ _ _)
   | (with_reducible exact lockgatelaw06_FlowTells.mono _ _ _)
   | (with_reducible exact lockgatelaw06_works.mono _)
   | (with_reducible exact LeO.refl _)
   | (with_reducible exact LeO.none _)
   | (with_reducible refine LeO.ite ?_ ?_)
   | (with_reducible refine LeO.bind ?_ (fun _ => ?_))
   | exact ih0 _ _
   | exact ih1 _ _ _
   | exact ih2 _ _ _ _ _
   | exact ih3 _ _
   | exact ih4 _ _
   | exact lockgatelaw06_FlowInside.mono _ _
   | exact lockgatelaw06_FlowLands.mono _ _
   | exact lockgatelaw06_FlowMoved.mono _ _ _
   | exact lockgatelaw06_FlowTells.mono _ _ _
   | exact lockgatelaw06_works.mono _
   | exact LeO.none _
   | refine LeO.ite ?_ ?_
   | refine LeO.bind ?_ (fun _ => ?_)
theorem lockgatelaw06_FlowKnown.mono : ∀ k, LeO (lockgatelaw06_FlowKnown.f k ) (lockgatelaw06_FlowKnown.f (k + 1) ) := by
 intro  k
 obtain ⟨ih0, ih1, ih2, ih3, ih4⟩ := lockgatelaw06_FlowKnown.mono_l k
 unfold lockgatelaw06_FlowKnown.f
 repeat' first
  | (with_reducible exact ih0 _ _)
  | (with_reducible exact ih1 _ _ _)
  | (with_reducible exact ih2 _ _ _ _ _)
  | (with_reducible exact ih3 _ _)
  | (with_reducible exact ih4 _ _)
  | (with_reducible exact lockgatelaw06_FlowInside.mono _ _)
  | (with_reducible exact lockgatelaw06_FlowLands.mono _ _)
  | (with_reducible exact lockgatelaw06_FlowMoved.mono _ _ _)
  | (with_reducible exact lockgatelaw06_FlowTells.mono _ _ _)
  | (with_reducible exact lockgatelaw06_works.mono _)
  | (with_reducible exact LeO.refl _)
  | (with_reducible exact LeO.none _)
  | (with_reducible refine LeO.ite ?_ ?_)
  | (with_reducible refine LeO.bind ?_ (fun _ => ?_))
  | exact ih0 _ _
  | exact ih1 _ _ _
  | exact ih2 _ _ _ _ _
  | exact ih3 _ _
  | exact ih4 _ _
  | exact lockgatelaw06_FlowInside.mono _ _
  | exact lockgatelaw06_FlowLands.mono _ _
  | exact lockgatelaw06_FlowMoved.mono _ _ _
  | exact lockgatelaw06_FlowTells.mono _ _ _
  | exact lockgatelaw06_works.mono _
  | exact LeO.none _
  | refine LeO.ite ?_ ?_
  | refine LeO.bind ?_ (fun _ => ?_)
set_option maxHeartbeats 8000000 in
set_option maxRecDepth 100000 in
theorem lockgatelaw06_FlowKnown.calls (k : Nat)  (r : Bool) (w : World) (HRT : Aside0 (r = true)) (h : lockgatelaw06_FlowKnown.f k  = some r) :
 Calls Try.prog 7 #[] w fun e w' => e = .returned (.bool r) ∧ Below w.heap.size w w' := by
 have hu42 := Try.underlying42
 have HB := Aside0.mk (Below.refl w.heap.size w)
 have H : (lockgatelaw06_FlowKnown.l0 k (([5, 21, 29, 22, 222, 133, 149, 13, 229, 6] : List Int)) 0) = some r := h
 clear h
 obtain ⟨y535, hy535⟩ : ∃ y_ : List Int, y_ = (([5, 21, 29, 22, 222, 133, 149, 13, 229, 6] : List Int)) := ⟨_, rfl⟩
 replace H : (lockgatelaw06_FlowKnown.l0 k y535 0) = some r := by first | (rw [hy535]; with_reducible exact H) | (have H2_ := (Option.bind_some _ _).symm.trans H; rw [hy535]; with_reducible exact H2_) | (have H2_ := (Option.bind_some _ _).symm.trans H; with_reducible exact H2_) | with_reducible exact H | (rw [hy535]; exact H) | exact H
 have Ny535 := Aside0.mk hy535
 clear hy535
 have H' := Aside0.mk H
 clear H
 go_enter Try.func7, Try.ntmps7
 go_wp2_with (first | ((with_reducible refine gate_dst (N := 9) rfl ?_); (try (refine gate_guard (by rfl) ?_; dsimp only)); refine Kd.R_lit (Kd.int .i64) _ 3 ?hg (N := 9) ?hd (xs := ([5, 21, 29, 22, 222, 133, 149, 13, 229, 6] : List Int)) (inner := [.int .i64 5, .int .i64 21, .int .i64 29, .int .i64 22, .int .i64 222, .int .i64 133, .int .i64 149, .int .i64 13, .int .i64 229, .int .i64 6]) (ok := fun _ => True) (okp := fun _ => True) ?hr ?hp (fun _ hk => hk) trivial (Below.refl _ _) (Nat.le_refl _) (by simp) ?_; (case hd => rfl); (case hg => rfl); (case hr => first | (go_simp; done) | (go_simp; rfl)); (case hp => exact (Reps.one (show Kd.M (Kd.int .i64) _ _ _ 5 [.int .i64 5] from rfl) (Reps.one (show Kd.M (Kd.int .i64) _ _ _ 21 [.int .i64 21] from rfl) (Reps.one (show Kd.M (Kd.int .i64) _ _ _ 29 [.int .i64 29] from rfl) (Reps.one (show Kd.M (Kd.int .i64) _ _ _ 22 [.int .i64 22] from rfl) (Reps.one (show Kd.M (Kd.int .i64) _ _ _ 222 [.int .i64 222] from rfl) (Reps.one (show Kd.M (Kd.int .i64) _ _ _ 133 [.int .i64 133] from rfl) (Reps.one (show Kd.M (Kd.int .i64) _ _ _ 149 [.int .i64 149] from rfl) (Reps.one (show Kd.M (Kd.int .i64) _ _ _ 13 [.int .i64 13] from rfl) (Reps.one (show Kd.M (Kd.int .i64) _ _ _ 229 [.int .i64 229] from rfl) (Reps.one (show Kd.M (Kd.int .i64) _ _ _ 6 [.int .i64 6] from rfl) (Reps.none _ _)))))))))))); intro v536 w1 ho2 hb hg_ hnew_; clear hg_ hnew_; (first | rw [← Ny535.out] at ho2 | (simp only [Int.reduceToNat] at ho2; rw [← Ny535.out] at ho2)); have HO537 := Aside0.mk (Kd.R_lower ho2 (below_size bz_)); replace HB := bl_ hb; clear hb ho2))
 go_loopg [2] k (fun kq v2 w' => ∃ (x2_1 : Int), v2 = .int .i64 x2_1 ∧ Aside0 (lockgatelaw06_FlowKnown.l0 kq y535 x2_1 = some r) ∧ Aside0 (kq ≤ k) ∧ Aside0 (Kd.R (Kd.int .i64) 3 w' w.heap.size (fun _ => True) v536 y535) ∧ Aside0 (Below w.heap.size w w'))
 case atStart => exact ⟨(0), (by first | rfl | (simp; done) | (simp [*]; done)), H', ⟨Nat.le_refl _⟩, ⟨by (with_reducible repeat (first | apply Kd.R_alloc | apply Kd.R_drewN | apply Kd.R_drew)); exact HO537.out⟩, ⟨bz_⟩⟩
 case round =>
  clear H'
  try clear p2
  obtain ⟨x2_1, rfl, HA, HK1, HO_1, HB⟩ := hrel
  cases gk with
  | zero => exact absurd HA.out (by simp [lockgatelaw06_FlowKnown.l0])
  | succ k1 =>
   have H := HA.out
   clear HA
   simp only [lockgatelaw06_FlowKnown.l0] at H
   by_cases c3 : x2_1 < (y535.length : Int)
   ·rw [if_pos c3] at H
    have c3b0 : decide (x2_1 < (y535.length : Int)) = true := decide_eq_true c3
    clear c3
    have H' := Aside0.mk H
    clear H
    obtain ⟨Ao4, co4, eo4⟩ := Kd.R_slice HO_1.out
    subst eo4
    go_wp2
    go_loopg [3] k1 (fun kq v3 w' => ∃ (x3_2 : Int), v3 = .int .i64 x3_2 ∧ Aside0 (lockgatelaw06_FlowKnown.l1 kq y535 x2_1 x3_2 = some r) ∧ Aside0 (kq ≤ k1) ∧ Aside0 (Kd.R (Kd.int .i64) 3 w' w.heap.size (fun _ => True) (.slice Ao4 y535.length co4) y535) ∧ Aside0 (Below w.heap.size w w'))
    case atStart => exact ⟨((-7)), (by first | rfl | (simp; done) | (simp [*]; done)), H', ⟨Nat.le_refl _⟩, ⟨by (with_reducible repeat (first | apply Kd.R_alloc | apply Kd.R_drewN | apply Kd.R_drew)); exact HO_1.out⟩, ⟨bz_⟩⟩
    case round =>
     clear H'
     try clear p2
     try clear c3
     try clear c3b0
     try clear p2
     obtain ⟨x3_2, rfl, HA, HK2, HO_1, HB⟩ := hrel
     cases gk with
     | zero => exact absurd HA.out (by simp [lockgatelaw06_FlowKnown.l1])
     | succ k2 =>
      have H := HA.out
      clear HA
      simp only [lockgatelaw06_FlowKnown.l1] at H
      by_cases c5 : x3_2 ≤ 7
      ·rw [if_pos c5] at H
       have c5b0 : decide (x3_2 ≤ 7) = true := decide_eq_true c5
       clear c5
       by_cases c6 : 0 ≤ x2_1
       ·rw [if_pos c6] at H
        have c6b0 : decide (0 ≤ x2_1) = true := decide_eq_true c6
        clear c6
        by_cases c7 : x2_1 < (y535.length : Int)
        ·rw [if_pos c7] at H
         have c7b0 : decide (x2_1 < (y535.length : Int)) = true := decide_eq_true c7
         clear c7
         obtain ⟨y539, hy539⟩ : ∃ y_ : List (S42), y_ = (([(⟨183, 0, 0, 0, 0⟩ : S42), (⟨24, 0, 0, 0, 0⟩ : S42), (⟨rd y535 x2_1, 0, 0, x3_2, 0⟩ : S42), (⟨24, 0, 0, 0, 0⟩ : S42), (⟨149, 0, 0, 0, 0⟩ : S42)] : List (S42))) := ⟨_, rfl⟩
         replace H : (lockgatelaw06_FlowKnown.l2 k2 y535 x2_1 x3_2 y539 (-1)) = some r := by first | (rw [hy539]; with_reducible exact H) | (have H2_ := (Option.bind_some _ _).symm.trans H; rw [hy539]; with_reducible exact H2_) | (have H2_ := (Option.bind_some _ _).symm.trans H; with_reducible exact H2_) | with_reducible exact H | (rw [hy539]; exact H) | exact H
         have Ny539 := Aside0.mk hy539
         clear hy539
         have H' := Aside0.mk H
         clear H
         have p538 : 0 ≤ (x2_1 : Int) := of_decide_eq_true (by first | (with_reducible assumption) | assumption)
         have q538 : x2_1 < (y535.length : Int) := of_decide_eq_true (by first | (with_reducible assumption) | assumption)
         obtain ⟨ad538, e538, hx538_0⟩ := Kd.at_int (Kd.R_reads' HO_1.out).2.2 x2_1 p538 q538
         cases e538
         replace p538 := eq_true p538
         replace q538 := eq_true q538
         go_wp2_with (first | ((with_reducible refine gate_dst (N := 30) rfl ?_); (try (refine gate_guard (by rfl) ?_; dsimp only)); refine Kd.R_lit k42 _ 42 ?hg (N := 30) ?hd (xs := ([(⟨183, 0, 0, 0, 0⟩ : S42), (⟨24, 0, 0, 0, 0⟩ : S42), (⟨rd y535 x2_1, 0, 0, x3_2, 0⟩ : S42), (⟨24, 0, 0, 0, 0⟩ : S42), (⟨149, 0, 0, 0, 0⟩ : S42)] : List (S42))) (inner := [.int .i64 183, .int .i64 0, .int .i64 0, .int .i64 0, .int .i64 0, .int .i64 24, .int .i64 0, .int .i64 0, .int .i64 0, .int .i64 0, .int .i64 (rd y535 x2_1), .int .i64 0, .int .i64 0, .int .i64 x3_2, .int .i64 0, .int .i64 24, .int .i64 0, .int .i64 0, .int .i64 0, .int .i64 0, .int .i64 149, .int .i64 0, .int .i64 0, .int .i64 0, .int .i64 0]) (ok := fun _ => True) (okp := fun _ => True) ?hr ?hp (fun _ hk => hk) trivial (Below.refl _ _) (Nat.le_refl _) (by simp) ?_; (case hd => rfl); (case hg => rfl); (case hr => first | (go_simp; done) | (go_simp; rfl)); (case hp => exact (Reps.c5 (show Kd.M k42 _ _ _ (⟨183, 0, 0, 0, 0⟩ : S42) [.int .i64 183, .int .i64 0, .int .i64 0, .int .i64 0, .int .i64 0] from (k42_mkM _ _ _ (⟨183, 0, 0, 0, 0⟩ : S42) )) (Reps.c5 (show Kd.M k42 _ _ _ (⟨24, 0, 0, 0, 0⟩ : S42) [.int .i64 24, .int .i64 0, .int .i64 0, .int .i64 0, .int .i64 0] from (k42_mkM _ _ _ (⟨24, 0, 0, 0, 0⟩ : S42) )) (Reps.c5 (show Kd.M k42 _ _ _ (⟨rd y535 x2_1, 0, 0, x3_2, 0⟩ : S42) [.int .i64 (rd y535 x2_1), .int .i64 0, .int .i64 0, .int .i64 x3_2, .int .i64 0] from (k42_mkM _ _ _ (⟨rd y535 x2_1, 0, 0, x3_2, 0⟩ : S42) )) (Reps.c5 (show Kd.M k42 _ _ _ (⟨24, 0, 0, 0, 0⟩ : S42) [.int .i64 24, .int .i64 0, .int .i64 0, .int .i64 0, .int .i64 0] from (k42_mkM _ _ _ (⟨24, 0, 0, 0, 0⟩ : S42) )) (Reps.c5 (show Kd.M k42 _ _ _ (⟨149, 0, 0, 0, 0⟩ : S42) [.int .i64 149, .int .i64 0, .int .i64 0, .int .i64 0, .int .i64 0] from (k42_mkM _ _ _ (⟨149, 0, 0, 0, 0⟩ : S42) )) (Reps.none _ _))))))); intro v540 w8 ho9 hb hg_ hnew_; clear hg_ hnew_; (first | rw [← Ny539.out] at ho9 | (simp only [Int.reduceToNat] at ho9; rw [← Ny539.out] at ho9)); have HO541 := Aside0.mk (Kd.R_lower ho9 (below_size bz_)); replace HO_1 := Aside0.mk (Kd.R_below (by (with_reducible repeat (first | apply Kd.R_alloc | apply Kd.R_drewN | apply Kd.R_drew)); exact HO_1.out) hb); replace HB := bl_ hb; clear hb ho9))
         go_loopg [5] k2 (fun kq v5 w' => ∃ (x5_3 : Int), v5 = .int .i64 x5_3 ∧ Aside0 (lockgatelaw06_FlowKnown.l2 kq y535 x2_1 x3_2 y539 x5_3 = some r) ∧ Aside0 (kq ≤ k2) ∧ Aside0 (Kd.R (Kd.int .i64) 3 w' w.heap.size (fun _ => True) (.slice (some ad538) y535.length co4) y535) ∧ Aside0 (Kd.R k42 42 w' w.heap.size (fun _ => True) v540 y539) ∧ Aside0 (Below w.heap.size w w'))
         case atStart => exact ⟨((-1)), (by first | rfl | (simp; done) | (simp [*]; done)), H', ⟨Nat.le_refl _⟩, ⟨by (with_reducible repeat (first | apply Kd.R_alloc | apply Kd.R_drewN | apply Kd.R_drew)); exact HO_1.out⟩, ⟨by (with_reducible repeat (first | apply Kd.R_alloc | apply Kd.R_drewN | apply Kd.R_drew)); exact HO541.out⟩, ⟨bz_⟩⟩
         case round =>
          clear H'
          try clear p2
          try clear c3
          try clear c3b0
          try clear c5
          try clear c5b0
          try clear p5
          try clear q5
          try clear hx5
          try clear c6
          try clear c6b0
          try clear c7
          try clear c7b0
          try clear hx538_0
          try clear p2
          try clear p538
          try clear q538
          obtain ⟨x5_3, rfl, HA, HK3, HO_1, HO_4, HB⟩ := hrel
          cases gk with
          | zero => exact absurd HA.out (by simp [lockgatelaw06_FlowKnown.l2])
          | succ k3 =>
           have H := HA.out
           clear HA
           simp only [lockgatelaw06_FlowKnown.l2] at H
           by_cases c10 : x5_3 ≤ 5
           ·rw [if_pos c10] at H
            have c10b0 : decide (x5_3 ≤ 5) = true := decide_eq_true c10
            clear c10
            replace H := Option.bind_eq_some_iff.mp H
            obtain ⟨t542, A110, H⟩ := H
            replace H : (if t542 = true then (lockgatelaw06_FlowKnown.l2 k3 y535 x2_1 x3_2 y539 (wrap64 (x5_3 + 1))) else (some false)) = some r := H
            have A11 := Aside0.mk A110
            clear A110
            by_cases c12 : t542 = true
            ·subst c12
             have H1 : (lockgatelaw06_FlowKnown.l2 k3 y535 x2_1 x3_2 y539 (wrap64 (x5_3 + 1))) = some r := by rw [if_pos rfl] at H; exact H
             clear H
             have H := H1
             clear H1
             have H' := Aside0.mk H
             clear H
             obtain ⟨Ao13, co13, eo13⟩ := Kd.R_slice HO_4.out
             subst eo13
             go_wp2_with (first | ((with_reducible refine gate_callee (f := 3) rfl ?_); refine goesL_ (some 37) rfl rfl Try.func3 (by kernel_rfl) rfl #[.slice Ao13 y539.length co13, .int .i64 x5_3] rfl (by (try simp only [List.map_toArray, List.map_cons, List.map_nil]); first | done | rfl | (simp only [List.length_drop, List.length_take]; rfl)) ?_; (with_reducible refine (lockgatelaw06_FlowTells.calls k3 _ _ y539 x5_3 true _ ?side1 ?side2 (.mk rfl) A11.out).mono ?_); (case side1 => repeat (first | exact (Kd.R_reads' HO_4.out).2.2 | (with_reducible refine Kd.C_alloc ?_ _) | (with_reducible refine Kd.C_drewN ?_ _) | (with_reducible refine Kd.C_drew ?_))); (case side2 => exact (Kd.R_reads' HO_4.out).2.1); rintro e w14 ⟨rfl, hb⟩; refine ⟨_, rfl, ?_⟩; replace HO_1 := Aside0.mk (Kd.R_below (by (with_reducible repeat (first | apply Kd.R_alloc | apply Kd.R_drewN | apply Kd.R_drew)); exact HO_1.out) hb); replace HO_4 := Aside0.mk (Kd.R_below (by (with_reducible repeat (first | apply Kd.R_alloc | apply Kd.R_drewN | apply Kd.R_drew)); exact HO_4.out) hb); replace HB := bl_ hb; (try clear hb); (try clear hb2); (try clear hk); (try clear hi)))
             go_roundg k3
             case measure => have := HK1.out; have := HK2.out; have := HK3.out; omega
             case rel => exact ⟨(wrap64 (x5_3 + 1)), (by first | rfl | (simp; done) | (simp [*]; done)), H', ⟨by have := HK1.out; have := HK2.out; have := HK3.out; omega⟩, ⟨by (with_reducible repeat (first | apply Kd.R_alloc | apply Kd.R_drewN | apply Kd.R_drew)); exact HO_1.out⟩, ⟨by (with_reducible repeat (first | apply Kd.R_alloc | apply Kd.R_drewN | apply Kd.R_drew)); exact HO_4.out⟩, ⟨bz_⟩⟩
            ·replace c12 := Bool.eq_false_iff.mpr c12
             subst c12
             have H1 : (some false) = some r := by rw [if_neg (show ¬ (false = true) by decide)] at H; exact H
             clear H
             have H := H1
             clear H1
             exact absurd ((Option.some.inj H).trans HRT.out) (by decide)
           ·rw [if_neg c10] at H
            have c10b0 : decide (x5_3 ≤ 5) = false := decide_eq_false c10
            clear c10
            replace H := Option.bind_eq_some_iff.mp H
            obtain ⟨t543, A150, H⟩ := H
            replace H : (if t543 = true then ((lockgatelaw06_FlowInside.f k3 y539).bind fun t544 => (if t544 = true then ((lockgatelaw06_FlowMoved.f k3 y539 x3_2).bind fun t545 => (if t545 = true then (if 3 ≤ (y539.length : Int) then ((lockgatelaw06_FlowTells.f k3 (y539.take 3) 2).bind fun t550 => (if t550 = true then ((lockgatelaw06_FlowLands.f k3 (y539.take 3)).bind fun t555 => (if t555 = true then (if 1 ≤ 3 then ((lockgatelaw06_FlowLands.f k3 ((y539.take 3).drop 1)).bind fun t560 => (if t560 = true then ((lockgatelaw06_FlowTells.f k3 ((y539.take 3).drop 1) 0).bind fun t565 => (if t565 = true then (lockgatelaw06_FlowKnown.l1 k3 y535 x2_1 (wrap64 (x3_2 + 1))) else (some false))) else (some false))) else (none)) else (some false))) else (some false))) else (none)) else (some false))) else (some false))) else (some false)) = some r := H
            have A15 := Aside0.mk A150
            clear A150
            by_cases c16 : t543 = true
            ·subst c16
             have H1 : ((lockgatelaw06_FlowInside.f k3 y539).bind fun t544 => (if t544 = true then ((lockgatelaw06_FlowMoved.f k3 y539 x3_2).bind fun t545 => (if t545 = true then (if 3 ≤ (y539.length : Int) then ((lockgatelaw06_FlowTells.f k3 (y539.take 3) 2).bind fun t550 => (if t550 = true then ((lockgatelaw06_FlowLands.f k3 (y539.take 3)).bind fun t555 => (if t555 = true then (if 1 ≤ 3 then ((lockgatelaw06_FlowLands.f k3 ((y539.take 3).drop 1)).bind fun t560 => (if t560 = true then ((lockgatelaw06_FlowTells.f k3 ((y539.take 3).drop 1) 0).bind fun t565 => (if t565 = true then (lockgatelaw06_FlowKnown.l1 k3 y535 x2_1 (wrap64 (x3_2 + 1))) else (some false))) else (some false))) else (none)) else (some false))) else (some false))) else (none)) else (some false))) else (some false))) = some r := by rw [if_pos rfl] at H; exact H
             clear H
             have H := H1
             clear H1
             replace H := Option.bind_eq_some_iff.mp H
             obtain ⟨t544, A170, H⟩ := H
             replace H : (if t544 = true then ((lockgatelaw06_FlowMoved.f k3 y539 x3_2).bind fun t545 => (if t545 = true then (if 3 ≤ (y539.length : Int) then ((lockgatelaw06_FlowTells.f k3 (y539.take 3) 2).bind fun t550 => (if t550 = true then ((lockgatelaw06_FlowLands.f k3 (y539.take 3)).bind fun t555 => (if t555 = true then (if 1 ≤ 3 then ((lockgatelaw06_FlowLands.f k3 ((y539.take 3).drop 1)).bind fun t560 => (if t560 = true then ((lockgatelaw06_FlowTells.f k3 ((y539.take 3).drop 1) 0).bind fun t565 => (if t565 = true then (lockgatelaw06_FlowKnown.l1 k3 y535 x2_1 (wrap64 (x3_2 + 1))) else (some false))) else (some false))) else (none)) else (some false))) else (some false))) else (none)) else (some false))) else (some false)) = some r := H
             have A17 := Aside0.mk A170
             clear A170
             by_cases c18 : t544 = true
             ·subst c18
              have H1 : ((lockgatelaw06_FlowMoved.f k3 y539 x3_2).bind fun t545 => (if t545 = true then (if 3 ≤ (y539.length : Int) then ((lockgatelaw06_FlowTells.f k3 (y539.take 3) 2).bind fun t550 => (if t550 = true then ((lockgatelaw06_FlowLands.f k3 (y539.take 3)).bind fun t555 => (if t555 = true then (if 1 ≤ 3 then ((lockgatelaw06_FlowLands.f k3 ((y539.take 3).drop 1)).bind fun t560 => (if t560 = true then ((lockgatelaw06_FlowTells.f k3 ((y539.take 3).drop 1) 0).bind fun t565 => (if t565 = true then (lockgatelaw06_FlowKnown.l1 k3 y535 x2_1 (wrap64 (x3_2 + 1))) else (some false))) else (some false))) else (none)) else (some false))) else (some false))) else (none)) else (some false))) = some r := by rw [if_pos rfl] at H; exact H
              clear H
              have H := H1
              clear H1
              replace H := Option.bind_eq_some_iff.mp H
              obtain ⟨t545, A190, H⟩ := H
              replace H : (if t545 = true then (if 3 ≤ (y539.length : Int) then ((lockgatelaw06_FlowTells.f k3 (y539.take 3) 2).bind fun t550 => (if t550 = true then ((lockgatelaw06_FlowLands.f k3 (y539.take 3)).bind fun t555 => (if t555 = true then (if 1 ≤ 3 then ((lockgatelaw06_FlowLands.f k3 ((y539.take 3).drop 1)).bind fun t560 => (if t560 = true then ((lockgatelaw06_FlowTells.f k3 ((y539.take 3).drop 1) 0).bind fun t565 => (if t565 = true then (lockgatelaw06_FlowKnown.l1 k3 y535 x2_1 (wrap64 (x3_2 + 1))) else (some false))) else (some false))) else (none)) else (some false))) else (some false))) else (none)) else (some false)) = some r := H
              have A19 := Aside0.mk A190
              clear A190
              by_cases c20 : t545 = true
              ·subst c20
               have H1 : (if 3 ≤ (y539.length : Int) then ((lockgatelaw06_FlowTells.f k3 (y539.take 3) 2).bind fun t550 => (if t550 = true then ((lockgatelaw06_FlowLands.f k3 (y539.take 3)).bind fun t555 => (if t555 = true then (if 1 ≤ 3 then ((lockgatelaw06_FlowLands.f k3 ((y539.take 3).drop 1)).bind fun t560 => (if t560 = true then ((lockgatelaw06_FlowTells.f k3 ((y539.take 3).drop 1) 0).bind fun t565 => (if t565 = true then (lockgatelaw06_FlowKnown.l1 k3 y535 x2_1 (wrap64 (x3_2 + 1))) else (some false))) else (some false))) else (none)) else (some false))) else (some false))) else (none)) = some r := by rw [if_pos rfl] at H; exact H
               clear H
               have H := H1
               clear H1
               by_cases c21 : 3 ≤ (y539.length : Int)
               ·rw [if_pos c21] at H
                have c21b0 := eq_true c21
                have c21b1 : decide (3 ≤ (y539.length : Int)) = true := decide_eq_true c21
                clear c21
                obtain ⟨y546, hy546⟩ : ∃ y_ : List (S42), y_ = (y539.take 3) := ⟨_, rfl⟩
                replace H : ((lockgatelaw06_FlowTells.f k3 y546 2).bind fun t550 => (if t550 = true then ((lockgatelaw06_FlowLands.f k3 (y539.take 3)).bind fun t555 => (if t555 = true then (if 1 ≤ 3 then ((lockgatelaw06_FlowLands.f k3 ((y539.take 3).drop 1)).bind fun t560 => (if t560 = true then ((lockgatelaw06_FlowTells.f k3 ((y539.take 3).drop 1) 0).bind fun t565 => (if t565 = true then (lockgatelaw06_FlowKnown.l1 k3 y535 x2_1 (wrap64 (x3_2 + 1))) else (some false))) else (some false))) else (none)) else (some false))) else (some false))) = some r := by first | (rw [hy546]; with_reducible exact H) | (have H2_ := (Option.bind_some _ _).symm.trans H; rw [hy546]; with_reducible exact H2_) | (have H2_ := (Option.bind_some _ _).symm.trans H; with_reducible exact H2_) | with_reducible exact H | (rw [hy546]; exact H) | exact H
                have Ny546 := Aside0.mk hy546
                clear hy546
                replace H := Option.bind_eq_some_iff.mp H
                obtain ⟨t550, A220, H⟩ := H
                replace H : (if t550 = true then ((lockgatelaw06_FlowLands.f k3 (y539.take 3)).bind fun t555 => (if t555 = true then (if 1 ≤ 3 then ((lockgatelaw06_FlowLands.f k3 ((y539.take 3).drop 1)).bind fun t560 => (if t560 = true then ((lockgatelaw06_FlowTells.f k3 ((y539.take 3).drop 1) 0).bind fun t565 => (if t565 = true then (lockgatelaw06_FlowKnown.l1 k3 y535 x2_1 (wrap64 (x3_2 + 1))) else (some false))) else (some false))) else (none)) else (some false))) else (some false)) = some r := H
                have A22 := Aside0.mk A220
                clear A220
                by_cases c23 : t550 = true
                ·subst c23
                 have H1 : ((lockgatelaw06_FlowLands.f k3 (y539.take 3)).bind fun t555 => (if t555 = true then (if 1 ≤ 3 then ((lockgatelaw06_FlowLands.f k3 ((y539.take 3).drop 1)).bind fun t560 => (if t560 = true then ((lockgatelaw06_FlowTells.f k3 ((y539.take 3).drop 1) 0).bind fun t565 => (if t565 = true then (lockgatelaw06_FlowKnown.l1 k3 y535 x2_1 (wrap64 (x3_2 + 1))) else (some false))) else (some false))) else (none)) else (some false))) = some r := by rw [if_pos rfl] at H; exact H
                 clear H
                 have H := H1
                 clear H1
                 have c24b0 := eq_true (of_decide_eq_true (by first | (with_reducible assumption) | assumption) : 3 ≤ (y539.length : Int))
                 have hy551 := Ny546.out
                 replace H : ((lockgatelaw06_FlowLands.f k3 y546).bind fun t555 => (if t555 = true then (if 1 ≤ 3 then ((lockgatelaw06_FlowLands.f k3 ((y539.take 3).drop 1)).bind fun t560 => (if t560 = true then ((lockgatelaw06_FlowTells.f k3 ((y539.take 3).drop 1) 0).bind fun t565 => (if t565 = true then (lockgatelaw06_FlowKnown.l1 k3 y535 x2_1 (wrap64 (x3_2 + 1))) else (some false))) else (some false))) else (none)) else (some false))) = some r := by first | (rw [hy551]; with_reducible exact H) | (have H2_ := (Option.bind_some _ _).symm.trans H; rw [hy551]; with_reducible exact H2_) | (have H2_ := (Option.bind_some _ _).symm.trans H; with_reducible exact H2_) | with_reducible exact H | (rw [hy551]; exact H) | exact H
                 have Ny551 := Aside0.mk hy551
                 clear hy551
                 replace H := Option.bind_eq_some_iff.mp H
                 obtain ⟨t555, A250, H⟩ := H
                 replace H : (if t555 = true then (if 1 ≤ 3 then ((lockgatelaw06_FlowLands.f k3 ((y539.take 3).drop 1)).bind fun t560 => (if t560 = true then ((lockgatelaw06_FlowTells.f k3 ((y539.take 3).drop 1) 0).bind fun t565 => (if t565 = true then (lockgatelaw06_FlowKnown.l1 k3 y535 x2_1 (wrap64 (x3_2 + 1))) else (some false))) else (some false))) else (none)) else (some false)) = some r := H
                 have A25 := Aside0.mk A250
                 clear A250
                 by_cases c26 : t555 = true
                 ·subst c26
                  have H1 : (if 1 ≤ 3 then ((lockgatelaw06_FlowLands.f k3 ((y539.take 3).drop 1)).bind fun t560 => (if t560 = true then ((lockgatelaw06_FlowTells.f k3 ((y539.take 3).drop 1) 0).bind fun t565 => (if t565 = true then (lockgatelaw06_FlowKnown.l1 k3 y535 x2_1 (wrap64 (x3_2 + 1))) else (some false))) else (some false))) else (none)) = some r := by rw [if_pos rfl] at H; exact H
                  clear H
                  have H := H1
                  clear H1
                  by_cases c27 : 1 ≤ 3
                  ·rw [if_pos c27] at H
                   have c27b0 := eq_true c27
                   have c27b1 : decide (1 ≤ 3) = true := decide_eq_true c27
                   clear c27
                   have c28b0 := eq_true (of_decide_eq_true (by first | (with_reducible assumption) | assumption) : 3 ≤ (y539.length : Int))
                   obtain ⟨y556, hy556⟩ : ∃ y_ : List (S42), y_ = ((y539.take 3).drop 1) := ⟨_, rfl⟩
                   replace H : ((lockgatelaw06_FlowLands.f k3 y556).bind fun t560 => (if t560 = true then ((lockgatelaw06_FlowTells.f k3 ((y539.take 3).drop 1) 0).bind fun t565 => (if t565 = true then (lockgatelaw06_FlowKnown.l1 k3 y535 x2_1 (wrap64 (x3_2 + 1))) else (some false))) else (some false))) = some r := by first | (rw [hy556]; with_reducible exact H) | (have H2_ := (Option.bind_some _ _).symm.trans H; rw [hy556]; with_reducible exact H2_) | (have H2_ := (Option.bind_some _ _).symm.trans H; with_reducible exact H2_) | with_reducible exact H | (rw [hy556]; exact H) | exact H
                   have Ny556 := Aside0.mk hy556
                   clear hy556
                   replace H := Option.bind_eq_some_iff.mp H
                   obtain ⟨t560, A290, H⟩ := H
                   replace H : (if t560 = true then ((lockgatelaw06_FlowTells.f k3 ((y539.take 3).drop 1) 0).bind fun t565 => (if t565 = true then (lockgatelaw06_FlowKnown.l1 k3 y535 x2_1 (wrap64 (x3_2 + 1))) else (some false))) else (some false)) = some r := H
                   have A29 := Aside0.mk A290
                   clear A290
                   by_cases c30 : t560 = true
                   ·subst c30
                    have H1 : ((lockgatelaw06_FlowTells.f k3 ((y539.take 3).drop 1) 0).bind fun t565 => (if t565 = true then (lockgatelaw06_FlowKnown.l1 k3 y535 x2_1 (wrap64 (x3_2 + 1))) else (some false))) = some r := by rw [if_pos rfl] at H; exact H
                    clear H
                    have H := H1
                    clear H1
                    have c31b0 := eq_true (of_decide_eq_true (by first | (with_reducible assumption) | assumption) : 1 ≤ 3)
                    have c32b0 := eq_true (of_decide_eq_true (by first | (with_reducible assumption) | assumption) : 3 ≤ (y539.length : Int))
                    have hy561 := Ny556.out
                    replace H : ((lockgatelaw06_FlowTells.f k3 y556 0).bind fun t565 => (if t565 = true then (lockgatelaw06_FlowKnown.l1 k3 y535 x2_1 (wrap64 (x3_2 + 1))) else (some false))) = some r := by first | (rw [hy561]; with_reducible exact H) | (have H2_ := (Option.bind_some _ _).symm.trans H; rw [hy561]; with_reducible exact H2_) | (have H2_ := (Option.bind_some _ _).symm.trans H; with_reducible exact H2_) | with_reducible exact H | (rw [hy561]; exact H) | exact H
                    have Ny561 := Aside0.mk hy561
                    clear hy561
                    replace H := Option.bind_eq_some_iff.mp H
                    obtain ⟨t565, A330, H⟩ := H
                    replace H : (if t565 = true then (lockgatelaw06_FlowKnown.l1 k3 y535 x2_1 (wrap64 (x3_2 + 1))) else (some false)) = some r := H
                    have A33 := Aside0.mk A330
                    clear A330
                    by_cases c34 : t565 = true
                    ·subst c34
                     have H1 : (lockgatelaw06_FlowKnown.l1 k3 y535 x2_1 (wrap64 (x3_2 + 1))) = some r := by rw [if_pos rfl] at H; exact H
                     clear H
                     have H := H1
                     clear H1
                     have H' := Aside0.mk H
                     clear H
                     obtain ⟨Ao35, co35, eo35⟩ := Kd.R_slice HO_4.out
                     subst eo35
                     go_wp2_with (first | ((with_reducible refine gate_callee (f := 4) rfl ?_); refine goesL_ (some 40) rfl rfl Try.func4 (by kernel_rfl) rfl #[.slice Ao35 y539.length co35] rfl (by (try simp only [List.map_toArray, List.map_cons, List.map_nil]); first | done | rfl | (simp only [List.length_drop, List.length_take]; rfl)) ?_; (with_reducible refine (lockgatelaw06_FlowLands.calls k3 _ _ y539 true _ ?side1 ?side2 (.mk rfl) A15.out).mono ?_); (case side1 => repeat (first | exact (Kd.R_reads' HO_4.out).2.2 | (with_reducible refine Kd.C_alloc ?_ _) | (with_reducible refine Kd.C_drewN ?_ _) | (with_reducible refine Kd.C_drew ?_))); (case side2 => exact (Kd.R_reads' HO_4.out).2.1); rintro e w36 ⟨rfl, hb⟩; refine ⟨_, rfl, ?_⟩; replace HO_1 := Aside0.mk (Kd.R_below (by (with_reducible repeat (first | apply Kd.R_alloc | apply Kd.R_drewN | apply Kd.R_drew)); exact HO_1.out) hb); replace HO_4 := Aside0.mk (Kd.R_below (by (with_reducible repeat (first | apply Kd.R_alloc | apply Kd.R_drewN | apply Kd.R_drew)); exact HO_4.out) hb); replace HB := bl_ hb; (try clear hb); (try clear hb2); (try clear hk); (try clear hi)) | (go_at_call 5; (with_reducible refine (lockgatelaw06_FlowInside.calls k3 _ _ y539 true _ ?side1 ?side2 (.mk rfl) A17.out).mono ?_); (case side1 => repeat (first | exact (Kd.R_reads' HO_4.out).2.2 | (with_reducible refine Kd.C_alloc ?_ _) | (with_reducible refine Kd.C_drewN ?_ _) | (with_reducible refine Kd.C_drew ?_))); (case side2 => exact (Kd.R_reads' HO_4.out).2.1); rintro e w37 ⟨rfl, hb⟩; replace HO_1 := Aside0.mk (Kd.R_below (by (with_reducible repeat (first | apply Kd.R_alloc | apply Kd.R_drewN | apply Kd.R_drew)); exact HO_1.out) hb); replace HO_4 := Aside0.mk (Kd.R_below (by (with_reducible repeat (first | apply Kd.R_alloc | apply Kd.R_drewN | apply Kd.R_drew)); exact HO_4.out) hb); replace HB := bl_ hb; (try clear hb); (try clear hb2); (try clear hk); (try clear hi)) | (go_at_call 6; (with_reducible refine (lockgatelaw06_FlowMoved.calls k3 _ _ y539 x3_2 true _ ?side1 ?side2 (.mk rfl) A19.out).mono ?_); (case side1 => repeat (first | exact (Kd.R_reads' HO_4.out).2.2 | (with_reducible refine Kd.C_alloc ?_ _) | (with_reducible refine Kd.C_drewN ?_ _) | (with_reducible refine Kd.C_drew ?_))); (case side2 => exact (Kd.R_reads' HO_4.out).2.1); rintro e w38 ⟨rfl, hb⟩; replace HO_1 := Aside0.mk (Kd.R_below (by (with_reducible repeat (first | apply Kd.R_alloc | apply Kd.R_drewN | apply Kd.R_drew)); exact HO_1.out) hb); replace HO_4 := Aside0.mk (Kd.R_below (by (with_reducible repeat (first | apply Kd.R_alloc | apply Kd.R_drewN | apply Kd.R_drew)); exact HO_4.out) hb); replace HB := bl_ hb; (try clear hb); (try clear hb2); (try clear hk); (try clear hi); have q39 : (3 : Int) ≤ ((y539.length : Int) : Int) := of_decide_eq_true (by first | (with_reducible assumption) | assumption); obtain ⟨i039, hi039, _, hsz39, _⟩ := info_parts info42; have hroom39 : y539.length ≤ co35 := (Kd.R_reads' HO_4.out).2.1; have hC39 : Kd.C k42 _ Ao35 y539.length y539 := (Kd.R_reads' HO_4.out).2.2; have hcut39 := cut_to (P := Try.prog) 22 42 .i64 Try.underlying22 hi039 Ao35 y539.length co35 3 (by omega) q39 hroom39; have hr39 := Kd.C_take (m := 3) hC39 (by omega); have hy39 : y546.length = (3 : Int).toNat := (by rw [Ny546.out, List.length_take]; omega); rw [← Ny546.out] at hr39; rw [← hy39] at hcut39; have HR549 := Aside0.mk hr39; have HC549 := Aside0.mk (show y546.length ≤ co35 from by omega); clear hr39 hC39 hroom39 hi039 hsz39; have KY39 := Aside0.mk hy39; clear hy39; have KL39 := Aside0.mk (show 3 ≤ y539.length from by omega); replace q39 := eq_true q39) | (go_at_call 3; (with_reducible refine (lockgatelaw06_FlowTells.calls k3 _ _ y546 2 true _ ?side1 ?side2 (.mk rfl) A22.out).mono ?_); (case side1 => repeat (first | exact (by repeat (first | (with_reducible exact HR549.out) | (with_reducible refine Kd.C_alloc ?_ _) | (with_reducible refine Kd.C_drewN ?_ _) | (with_reducible refine Kd.C_drew ?_) | exact HR549.out)) | (with_reducible refine Kd.C_alloc ?_ _) | (with_reducible refine Kd.C_drewN ?_ _) | (with_reducible refine Kd.C_drew ?_))); (case side2 => exact HC549.out); rintro e w40 ⟨rfl, hb⟩; replace HO_1 := Aside0.mk (Kd.R_below (by (with_reducible repeat (first | apply Kd.R_alloc | apply Kd.R_drewN | apply Kd.R_drew)); exact HO_1.out) hb); replace HO_4 := Aside0.mk (Kd.R_below (by (with_reducible repeat (first | apply Kd.R_alloc | apply Kd.R_drewN | apply Kd.R_drew)); exact HO_4.out) hb); replace HR549 := Aside0.mk (Kd.C_below (by repeat (first | (with_reducible exact HR549.out) | (with_reducible refine Kd.C_alloc ?_ _) | (with_reducible refine Kd.C_drewN ?_ _) | (with_reducible refine Kd.C_drew ?_) | exact HR549.out)) hb); replace HB := bl_ hb; (try clear hb); (try clear hb2); (try clear hk); (try clear hi); have q41 : (3 : Int) ≤ ((y539.length : Int) : Int) := of_decide_eq_true (by first | (with_reducible assumption) | assumption); obtain ⟨i041, hi041, _, hsz41, _⟩ := info_parts info42; have hroom41 : y539.length ≤ co35 := (Kd.R_reads' HO_4.out).2.1; have hC41 : Kd.C k42 _ Ao35 y539.length y539 := (Kd.R_reads' HO_4.out).2.2; have hcut41 := cut_to (P := Try.prog) 22 42 .i64 Try.underlying22 hi041 Ao35 y539.length co35 3 (by omega) q41 hroom41; have hr41 := Kd.C_take (m := 3) hC41 (by omega); have hy41 : y546.length = (3 : Int).toNat := (by rw [Ny551.out, List.length_take]; omega); rw [← Ny551.out] at hr41; rw [← hy41] at hcut41; have HR554 := Aside0.mk hr41; have HC554 := Aside0.mk (show y546.length ≤ co35 from by omega); clear hr41 hC41 hroom41 hi041 hsz41; have KY41 := Aside0.mk hy41; clear hy41; have KL41 := Aside0.mk (show 3 ≤ y539.length from by omega); replace q41 := eq_true q41) | (go_at_call 4; (with_reducible refine (lockgatelaw06_FlowLands.calls k3 _ _ y546 true _ ?side1 ?side2 (.mk rfl) A25.out).mono ?_); (case side1 => repeat (first | exact (by repeat (first | (with_reducible exact HR549.out) | (with_reducible refine Kd.C_alloc ?_ _) | (with_reducible refine Kd.C_drewN ?_ _) | (with_reducible refine Kd.C_drew ?_) | exact HR549.out)) | (with_reducible refine Kd.C_alloc ?_ _) | (with_reducible refine Kd.C_drewN ?_ _) | (with_reducible refine Kd.C_drew ?_))); (case side2 => exact HC549.out); rintro e w42 ⟨rfl, hb⟩; replace HO_1 := Aside0.mk (Kd.R_below (by (with_reducible repeat (first | apply Kd.R_alloc | apply Kd.R_drewN | apply Kd.R_drew)); exact HO_1.out) hb); replace HO_4 := Aside0.mk (Kd.R_below (by (with_reducible repeat (first | apply Kd.R_alloc | apply Kd.R_drewN | apply Kd.R_drew)); exact HO_4.out) hb); replace HR549 := Aside0.mk (Kd.C_below (by repeat (first | (with_reducible exact HR549.out) | (with_reducible refine Kd.C_alloc ?_ _) | (with_reducible refine Kd.C_drewN ?_ _) | (with_reducible refine Kd.C_drew ?_) | exact HR549.out)) hb); replace HR554 := Aside0.mk (Kd.C_below (by repeat (first | (with_reducible exact HR554.out) | (with_reducible refine Kd.C_alloc ?_ _) | (with_reducible refine Kd.C_drewN ?_ _) | (with_reducible refine Kd.C_drew ?_) | exact HR554.out)) hb); replace HB := bl_ hb; (try clear hb); (try clear hb2); (try clear hk); (try clear hi); have q43 : (3 : Int) ≤ ((y539.length : Int) : Int) := of_decide_eq_true (by first | (with_reducible assumption) | assumption); obtain ⟨i043, hi043, _, hsz43, _⟩ := info_parts info42; have hroom43 : y539.length ≤ co35 := (Kd.R_reads' HO_4.out).2.1; have hC43 : Kd.C k42 _ Ao35 y539.length y539 := (Kd.R_reads' HO_4.out).2.2; have ql43 : (1 : Int) ≤ (3 : Int) := (by omega); have hcut43 := cut_mid (P := Try.prog) 22 42 .i64 .i64 Try.underlying22 hi043 5 hsz43 Ao35 y539.length co35 1 3 (by omega) ql43 q43 hroom43; have hr43 := Kd.C_mid (lo := (1 : Int).toNat) (hi := (3 : Int).toNat) (c := co35) hC43 (by omega) (by omega) hroom43; obtain ⟨A43, hA43⟩ : ∃ A1, A1 = (if co35 = (1 : Int).toNat then Ao35 else (Ao35 : Option Addr).map (·.add ((1 : Int).toNat * 5))) := ⟨_, rfl⟩; obtain ⟨c43, hc43⟩ : ∃ c1, c1 = co35 - (1 : Int).toNat := ⟨_, rfl⟩; have hy43 : y556.length = (3 : Int).toNat - (1 : Int).toNat := (by rw [Ny556.out, List.length_drop, List.length_take] <;> omega); rw [show ((y539).take (3 : Int).toNat).drop (1 : Int).toNat = y556 from Ny556.out.symm] at hr43; replace hr43 : Kd.C k42 _ A43 y556.length y556 := (by rw [hA43]; exact hr43); rw [← hy43, ← hA43, ← hc43] at hcut43; have HR559 := Aside0.mk hr43; have HC559 := Aside0.mk (show y556.length ≤ c43 from by rw [hy43, hc43]; exact Nat.sub_le_sub_right (Nat.le_trans (by omega) hroom43) _); clear hr43 hC43 hroom43 hi043 hsz43 hc43; have KY43 := Aside0.mk hy43; have KA43 := Aside0.mk hA43; clear hy43 hA43; have KL43 := Aside0.mk (show 3 ≤ y539.length from by omega); have KM43 := Aside0.mk (show 1 ≤ 3 from by omega); replace q43 := eq_true q43) | (go_at_call 4; (with_reducible refine (lockgatelaw06_FlowLands.calls k3 _ _ y556 true _ ?side1 ?side2 (.mk rfl) A29.out).mono ?_); (case side1 => repeat (first | exact (by repeat (first | (with_reducible exact HR559.out) | (with_reducible refine Kd.C_alloc ?_ _) | (with_reducible refine Kd.C_drewN ?_ _) | (with_reducible refine Kd.C_drew ?_) | exact HR559.out)) | (with_reducible refine Kd.C_alloc ?_ _) | (with_reducible refine Kd.C_drewN ?_ _) | (with_reducible refine Kd.C_drew ?_))); (case side2 => exact HC559.out); rintro e w44 ⟨rfl, hb⟩; replace HO_1 := Aside0.mk (Kd.R_below (by (with_reducible repeat (first | apply Kd.R_alloc | apply Kd.R_drewN | apply Kd.R_drew)); exact HO_1.out) hb); replace HO_4 := Aside0.mk (Kd.R_below (by (with_reducible repeat (first | apply Kd.R_alloc | apply Kd.R_drewN | apply Kd.R_drew)); exact HO_4.out) hb); replace HR549 := Aside0.mk (Kd.C_below (by repeat (first | (with_reducible exact HR549.out) | (with_reducible refine Kd.C_alloc ?_ _) | (with_reducible refine Kd.C_drewN ?_ _) | (with_reducible refine Kd.C_drew ?_) | exact HR549.out)) hb); replace HR554 := Aside0.mk (Kd.C_below (by repeat (first | (with_reducible exact HR554.out) | (with_reducible refine Kd.C_alloc ?_ _) | (with_reducible refine Kd.C_drewN ?_ _) | (with_reducible refine Kd.C_drew ?_) | exact HR554.out)) hb); replace HR559 := Aside0.mk (Kd.C_below (by repeat (first | (with_reducible exact HR559.out) | (with_reducible refine Kd.C_alloc ?_ _) | (with_reducible refine Kd.C_drewN ?_ _) | (with_reducible refine Kd.C_drew ?_) | exact HR559.out)) hb); replace HB := bl_ hb; (try clear hb); (try clear hb2); (try clear hk); (try clear hi); have q45 : (3 : Int) ≤ ((y539.length : Int) : Int) := of_decide_eq_true (by first | (with_reducible assumption) | assumption); obtain ⟨i045, hi045, _, hsz45, _⟩ := info_parts info42; have hroom45 : y539.length ≤ co35 := (Kd.R_reads' HO_4.out).2.1; have hC45 : Kd.C k42 _ Ao35 y539.length y539 := (Kd.R_reads' HO_4.out).2.2; have ql45 : (1 : Int) ≤ (3 : Int) := (by omega); have hcut45 := cut_mid (P := Try.prog) 22 42 .i64 .i64 Try.underlying22 hi045 5 hsz45 Ao35 y539.length co35 1 3 (by omega) ql45 q45 hroom45; have hr45 := Kd.C_mid (lo := (1 : Int).toNat) (hi := (3 : Int).toNat) (c := co35) hC45 (by omega) (by omega) hroom45; obtain ⟨A45, hA45⟩ : ∃ A1, A1 = (if co35 = (1 : Int).toNat then Ao35 else (Ao35 : Option Addr).map (·.add ((1 : Int).toNat * 5))) := ⟨_, rfl⟩; obtain ⟨c45, hc45⟩ : ∃ c1, c1 = co35 - (1 : Int).toNat := ⟨_, rfl⟩; have hy45 : y556.length = (3 : Int).toNat - (1 : Int).toNat := (by rw [Ny561.out, List.length_drop, List.length_take] <;> omega); rw [show ((y539).take (3 : Int).toNat).drop (1 : Int).toNat = y556 from Ny561.out.symm] at hr45; replace hr45 : Kd.C k42 _ A45 y556.length y556 := (by rw [hA45]; exact hr45); rw [← hy45, ← hA45, ← hc45] at hcut45; have HR564 := Aside0.mk hr45; have HC564 := Aside0.mk (show y556.length ≤ c45 from by rw [hy45, hc45]; exact Nat.sub_le_sub_right (Nat.le_trans (by omega) hroom45) _); clear hr45 hC45 hroom45 hi045 hsz45 hc45; have KY45 := Aside0.mk hy45; have KA45 := Aside0.mk hA45; clear hy45 hA45; have KL45 := Aside0.mk (show 3 ≤ y539.length from by omega); have KM45 := Aside0.mk (show 1 ≤ 3 from by omega); replace q45 := eq_true q45) | (go_at_call 3; (with_reducible refine (lockgatelaw06_FlowTells.calls k3 _ _ y556 0 true _ ?side1 ?side2 (.mk rfl) A33.out).mono ?_); (case side1 => repeat (first | exact (by repeat (first | (with_reducible exact HR559.out) | (with_reducible refine Kd.C_alloc ?_ _) | (with_reducible refine Kd.C_drewN ?_ _) | (with_reducible refine Kd.C_drew ?_) | exact HR559.out)) | (with_reducible refine Kd.C_alloc ?_ _) | (with_reducible refine Kd.C_drewN ?_ _) | (with_reducible refine Kd.C_drew ?_))); (case side2 => exact HC559.out); rintro e w46 ⟨rfl, hb⟩; replace HO_1 := Aside0.mk (Kd.R_below (by (with_reducible repeat (first | apply Kd.R_alloc | apply Kd.R_drewN | apply Kd.R_drew)); exact HO_1.out) hb); replace HO_4 := Aside0.mk (Kd.R_below (by (with_reducible repeat (first | apply Kd.R_alloc | apply Kd.R_drewN | apply Kd.R_drew)); exact HO_4.out) hb); replace HR549 := Aside0.mk (Kd.C_below (by repeat (first | (with_reducible exact HR549.out) | (with_reducible refine Kd.C_alloc ?_ _) | (with_reducible refine Kd.C_drewN ?_ _) | (with_reducible refine Kd.C_drew ?_) | exact HR549.out)) hb); replace HR554 := Aside0.mk (Kd.C_below (by repeat (first | (with_reducible exact HR554.out) | (with_reducible refine Kd.C_alloc ?_ _) | (with_reducible refine Kd.C_drewN ?_ _) | (with_reducible refine Kd.C_drew ?_) | exact HR554.out)) hb); replace HR559 := Aside0.mk (Kd.C_below (by repeat (first | (with_reducible exact HR559.out) | (with_reducible refine Kd.C_alloc ?_ _) | (with_reducible refine Kd.C_drewN ?_ _) | (with_reducible refine Kd.C_drew ?_) | exact HR559.out)) hb); replace HR564 := Aside0.mk (Kd.C_below (by repeat (first | (with_reducible exact HR564.out) | (with_reducible refine Kd.C_alloc ?_ _) | (with_reducible refine Kd.C_drewN ?_ _) | (with_reducible refine Kd.C_drew ?_) | exact HR564.out)) hb); replace HB := bl_ hb; (try clear hb); (try clear hb2); (try clear hk); (try clear hi)))
                     go_roundg k3
                     case measure => have := HK1.out; have := HK2.out; have := HK3.out; omega
                     case rel => exact ⟨(wrap64 (x3_2 + 1)), (by first | rfl | (simp; done) | (simp [*]; done)), H', ⟨by have := HK1.out; have := HK2.out; have := HK3.out; omega⟩, ⟨by (with_reducible repeat (first | apply Kd.R_alloc | apply Kd.R_drewN | apply Kd.R_drew)); exact HO_1.out⟩, ⟨bz_⟩⟩
                    ·replace c34 := Bool.eq_false_iff.mpr c34
                     subst c34
                     have H1 : (some false) = some r := by rw [if_neg (show ¬ (false = true) by decide)] at H; exact H
                     clear H
                     have H := H1
                     clear H1
                     exact absurd ((Option.some.inj H).trans HRT.out) (by decide)
                   ·replace c30 := Bool.eq_false_iff.mpr c30
                    subst c30
                    have H1 : (some false) = some r := by rw [if_neg (show ¬ (false = true) by decide)] at H; exact H
                    clear H
                    have H := H1
                    clear H1
                    exact absurd ((Option.some.inj H).trans HRT.out) (by decide)
                  ·rw [if_neg c27] at H
                   exact absurd H (by simp)
                 ·replace c26 := Bool.eq_false_iff.mpr c26
                  subst c26
                  have H1 : (some false) = some r := by rw [if_neg (show ¬ (false = true) by decide)] at H; exact H
                  clear H
                  have H := H1
                  clear H1
                  exact absurd ((Option.some.inj H).trans HRT.out) (by decide)
                ·replace c23 := Bool.eq_false_iff.mpr c23
                 subst c23
                 have H1 : (some false) = some r := by rw [if_neg (show ¬ (false = true) by decide)] at H; exact H
                 clear H
                 have H := H1
                 clear H1
                 exact absurd ((Option.some.inj H).trans HRT.out) (by decide)
               ·rw [if_neg c21] at H
                exact absurd H (by simp)
              ·replace c20 := Bool.eq_false_iff.mpr c20
               subst c20
               have H1 : (some false) = some r := by rw [if_neg (show ¬ (false = true) by decide)] at H; exact H
               clear H
               have H := H1
               clear H1
               exact absurd ((Option.some.inj H).trans HRT.out) (by decide)
             ·replace c18 := Bool.eq_false_iff.mpr c18
              subst c18
              have H1 : (some false) = some r := by rw [if_neg (show ¬ (false = true) by decide)] at H; exact H
              clear H
              have H := H1
              clear H1
              exact absurd ((Option.some.inj H).trans HRT.out) (by decide)
            ·replace c16 := Bool.eq_false_iff.mpr c16
             subst c16
             have H1 : (some false) = some r := by rw [if_neg (show ¬ (false = true) by decide)] at H; exact H
             clear H
             have H := H1
             clear H1
             exact absurd ((Option.some.inj H).trans HRT.out) (by decide)
        ·rw [if_neg c7] at H
         exact absurd H (by simp)
       ·rw [if_neg c6] at H
        exact absurd H (by simp)
      ·rw [if_neg c5] at H
       have c5b0 : decide (x3_2 ≤ 7) = false := decide_eq_false c5
       clear c5
       have H' := Aside0.mk H
       clear H
       go_wp2
       go_roundg k2
       case measure => have := HK1.out; have := HK2.out; omega
       case rel => exact ⟨(wrap64 (x2_1 + 1)), (by first | rfl | (simp; done) | (simp [*]; done)), H', ⟨by have := HK1.out; have := HK2.out; omega⟩, ⟨by (with_reducible repeat (first | apply Kd.R_alloc | apply Kd.R_drewN | apply Kd.R_drew)); exact HO_1.out⟩, ⟨bz_⟩⟩
   ·rw [if_neg c3] at H
    have c3b0 : decide (x2_1 < (y535.length : Int)) = false := decide_eq_false c3
    clear c3
    have H' := Aside0.mk H
    clear H
    obtain ⟨Ao47, co47, eo47⟩ := Kd.R_slice HO_1.out
    subst eo47
    go_wp2
    go_loopg [6, 7] k1 (fun kq v6 v7 w' => ∃ (x6_2 : List (S42)) (x7_2 : Int), v7 = .int .i64 x7_2 ∧ Aside0 (lockgatelaw06_FlowKnown.l3 kq x6_2 x7_2 = some r) ∧ Aside0 (kq ≤ k1) ∧ Aside0 (Kd.R k42 42 w' w.heap.size (fun _ => True) v6 x6_2) ∧ Aside0 (Below w.heap.size w w'))
    case atStart => exact ⟨(([] : List (S42))), (0), (by first | rfl | (simp; done) | (simp [*]; done)), H', ⟨Nat.le_refl _⟩, ⟨by first | exact Kd.R_nil _ _ _ _ _ | exact Kd.N_nil _ _ _ _ _ | exact Kd.V_nil _ _ _ _ _ | exact Kd.Q_nil _ _ _ _ _ | exact Kd.S_nil _ _ _ _ _⟩, ⟨bz_⟩⟩
    case round =>
     clear H'
     try clear c1
     try clear c2
     try clear p2
     try clear c3
     try clear c3b0
     try clear q3
     try clear c4
     try clear q4
     try clear c5
     try clear c5b0
     try clear p5
     try clear q5
     try clear hx5
     try clear c6
     try clear c6b0
     try clear p6
     try clear c7
     try clear c7b0
     try clear c10
     try clear c10b0
     try clear c12
     try clear c16
     try clear c18
     try clear c20
     try clear c21
     try clear c21b0
     try clear c21b1
     try clear c23
     try clear c24
     try clear c24b0
     try clear c26
     try clear c27
     try clear c27b0
     try clear c27b1
     try clear c28
     try clear c28b0
     try clear c30
     try clear c31
     try clear c31b0
     try clear c32
     try clear c32b0
     try clear c34
     try clear q39
     try clear q41
     try clear c43
     try clear q43
     try clear c45
     try clear q45
     try clear hx538_0
     try clear p2
     try clear p5
     try clear p538
     try clear q39
     try clear q41
     try clear q43
     try clear q45
     try clear q5
     try clear q538
     obtain ⟨x6_2, x7_2, rfl, HA, HK2, HO_6, HB⟩ := hrel
     cases gk with
     | zero => exact absurd HA.out (by simp [lockgatelaw06_FlowKnown.l3])
     | succ k2 =>
      have H := HA.out
      clear HA
      simp only [lockgatelaw06_FlowKnown.l3] at H
      by_cases c48 : x7_2 < 257
      ·rw [if_pos c48] at H
       have c48b0 : decide (x7_2 < 257) = true := decide_eq_true c48
       clear c48
       by_cases c49 : x6_2.length < 3518437208883
       ·rw [if_pos c49] at H
        have LMc49 := Aside0.mk c49
        clear c49
        obtain ⟨y566, hy566⟩ : ∃ y_ : List (S42), y_ = (x6_2 ++ [(⟨5, 0, 0, wrap64 ((Int.tmod (wrap64 (x7_2 * 37)) 11) - 5), 0⟩ : S42)]) := ⟨_, rfl⟩
        replace H : (lockgatelaw06_FlowKnown.l3 k2 y566 (wrap64 (x7_2 + 1))) = some r := by first | (rw [hy566]; with_reducible exact H) | (have H2_ := (Option.bind_some _ _).symm.trans H; rw [hy566]; with_reducible exact H2_) | (have H2_ := (Option.bind_some _ _).symm.trans H; with_reducible exact H2_) | with_reducible exact H | (rw [hy566]; exact H) | exact H
        have Ny566 := Aside0.mk hy566
        clear hy566
        have H' := Aside0.mk H
        clear H
        go_wp2_with (first | ((with_reducible refine gate_builtin (b := .append) (xs := #[.tmp 81, .tmp 87]) rfl ?_); (try (refine gate_guard (by rfl) ?_; dsimp only)); at_builtin; refine Kd.R_append k42 (w0 := w) w.heap.size rfl (.tmp 81) (.tmp 87) 22 42 (.agg #[(.int .i64 0), (.int .i64 0), (.int .i64 0), (.int .i64 0), (.int .i64 0)]) 40 rfl Try.underlying22 info42 rfl (by decide) (by omega) u6 x6_2 (⟨5, 0, 0, wrap64 ((Int.tmod (wrap64 (x7_2 * 37)) 11) - 5), 0⟩ : S42) [.int .i64 5, .int .i64 0, .int .i64 0, .int .i64 (wrap64 ((Int.tmod (wrap64 (x7_2 * 37)) 11) - 5)), .int .i64 0] (fun _ => True) (fun _ => False) rfl rfl ?aP (fun _ hk => hk.elim) ?aF ?aO ?aB ?aS ?aL ?_; (case aP => exact k42_mkM _ _ _ (⟨5, 0, 0, wrap64 ((Int.tmod (wrap64 (x7_2 * 37)) 11) - 5), 0⟩ : S42)); (case aB => exact bz_); (case aF => exact (fun _ _ => trivial)); (case aO => exact (by (with_reducible repeat (first | apply Kd.R_alloc | apply Kd.R_drewN | apply Kd.R_drew)); exact HO_6.out)); (case aS => exact (below_size bz_)); (case aL => have := LMc49.out; omega); intro v567 w50 ho hb hg hat; rw [← Ny566.out] at ho; have n0_ := Aside0.mk (hb); have n1_ := Aside0.mk (ho); clear HB; clear HO_6; have HB := n0_; have HO568 := n1_; clear n0_ n1_; clear ho hb hg hat))
        go_roundg k2
        case measure => have := HK1.out; have := HK2.out; omega
        case rel => exact ⟨(y566), (wrap64 (x7_2 + 1)), (by first | rfl | (simp; done) | (simp [*]; done)), H', ⟨by have := HK1.out; have := HK2.out; omega⟩, ⟨by (with_reducible repeat (first | apply Kd.R_alloc | apply Kd.R_drewN | apply Kd.R_drew)); exact HO568.out⟩, ⟨bz_⟩⟩
       ·rw [if_neg c49] at H
        exact absurd H (by simp)
      ·rw [if_neg c48] at H
       have c48b0 : decide (x7_2 < 257) = false := decide_eq_false c48
       clear c48
       by_cases c51 : 0 < (x6_2.length : Int)
       ·rw [if_pos c51] at H
        have c51b0 : decide (0 < (x6_2.length : Int)) = true := decide_eq_true c51
        have c51b1 : decide (0 < x6_2.length) = true := decide_eq_true (by omega)
        clear c51
        obtain ⟨y569, hy569⟩ : ∃ y_ : List (S42), y_ = (x6_2.set (0 : Int).toNat (⟨(rd_T42 x6_2 0).f0, (rd_T42 x6_2 0).f1, (rd_T42 x6_2 0).f2, 2, (rd_T42 x6_2 0).f4⟩ : S42)) := ⟨_, rfl⟩
        replace H : (lockgatelaw06_FlowKnown.l4 k2 y569 0) = some r := by first | (rw [hy569]; with_reducible exact H) | (have H2_ := (Option.bind_some _ _).symm.trans H; rw [hy569]; with_reducible exact H2_) | (have H2_ := (Option.bind_some _ _).symm.trans H; with_reducible exact H2_) | with_reducible exact H | (rw [hy569]; exact H) | exact H
        have Ny569 := Aside0.mk hy569
        clear hy569
        have H' := Aside0.mk H
        clear H
        have p52 : 0 ≤ (0 : Int) := (by omega)
        have q52 : (0 : Int) < ((x6_2.length : Int) : Int) := of_decide_eq_true (by first | (with_reducible assumption) | assumption)
        have qi52 : (0 < x6_2.length) = True := eq_true (by omega)
        obtain ⟨go52, co52, eo52, gb52, gl52, cl52, HG52⟩ := Kd.R_form HO_6.out (by omega)
        (first | cases eo52 | (injection eo52 with ea_ en_ ec_; (first | subst ea_ | (injection ea_ with ea_; subst ea_)); subst ec_; clear en_))
        have GB52 := Aside0.mk gb52
        have GG52 := Aside0.mk HG52
        clear gb52 gl52 HG52
        obtain ⟨ce52, hcl52, hM52, hcc52, hfr52⟩ := Kd.R_elem HO_6.out z42 (0 : Int) p52 q52
        obtain rfl := k42_openM hM52
        have hx52_0 : wr.cell? ⟨go52, (0 : Int).toNat * 5, none⟩ = some (.int .i64 ((rd_T42 x6_2 0).f0)) := hcc52 0 _ rfl
        have hx52_1 : wr.cell? ⟨go52, (0 : Int).toNat * 5 + 1, none⟩ = some (.int .i64 ((rd_T42 x6_2 0).f1)) := hcc52 1 _ rfl
        have hx52_2 : wr.cell? ⟨go52, (0 : Int).toNat * 5 + 2, none⟩ = some (.int .i64 ((rd_T42 x6_2 0).f2)) := hcc52 2 _ rfl
        have hx52_3 : wr.cell? ⟨go52, (0 : Int).toNat * 5 + 3, none⟩ = some (.int .i64 ((rd_T42 x6_2 0).f3)) := hcc52 3 _ rfl
        have hx52_4 : wr.cell? ⟨go52, (0 : Int).toNat * 5 + 4, none⟩ = some (.int .i64 ((rd_T42 x6_2 0).f4)) := hcc52 4 _ rfl
        have hf52_0 : wr.frozen? ⟨go52, (0 : Int).toNat * 5, none⟩ = false := hfr52 0
        have hf52_1 : wr.frozen? ⟨go52, (0 : Int).toNat * 5 + 1, none⟩ = false := hfr52 1
        have hf52_2 : wr.frozen? ⟨go52, (0 : Int).toNat * 5 + 2, none⟩ = false := hfr52 2
        have hf52_3 : wr.frozen? ⟨go52, (0 : Int).toNat * 5 + 3, none⟩ = false := hfr52 3
        have hf52_4 : wr.frozen? ⟨go52, (0 : Int).toNat * 5 + 4, none⟩ = false := hfr52 4
        clear hcl52 hcc52 hfr52 hM52
        (try rw [show ((0 : Int)).toNat = 0 from rfl] at hx52_0)
        (try simp only [Nat.reduceMul, Nat.zero_mul, Nat.zero_add, Nat.reduceAdd] at hx52_0)
        (try rw [show ((0 : Int)).toNat = 0 from rfl] at hf52_0)
        (try simp only [Nat.reduceMul, Nat.zero_mul, Nat.zero_add, Nat.reduceAdd] at hf52_0)
        (try rw [show ((0 : Int)).toNat = 0 from rfl] at hx52_1)
        (try simp only [Nat.reduceMul, Nat.zero_mul, Nat.zero_add, Nat.reduceAdd] at hx52_1)
        (try rw [show ((0 : Int)).toNat = 0 from rfl] at hf52_1)
        (try simp only [Nat.reduceMul, Nat.zero_mul, Nat.zero_add, Nat.reduceAdd] at hf52_1)
        (try rw [show ((0 : Int)).toNat = 0 from rfl] at hx52_2)
        (try simp only [Nat.reduceMul, Nat.zero_mul, Nat.zero_add, Nat.reduceAdd] at hx52_2)
        (try rw [show ((0 : Int)).toNat = 0 from rfl] at hf52_2)
        (try simp only [Nat.reduceMul, Nat.zero_mul, Nat.zero_add, Nat.reduceAdd] at hf52_2)
        (try rw [show ((0 : Int)).toNat = 0 from rfl] at hx52_3)
        (try simp only [Nat.reduceMul, Nat.zero_mul, Nat.zero_add, Nat.reduceAdd] at hx52_3)
        (try rw [show ((0 : Int)).toNat = 0 from rfl] at hf52_3)
        (try simp only [Nat.reduceMul, Nat.zero_mul, Nat.zero_add, Nat.reduceAdd] at hf52_3)
        (try rw [show ((0 : Int)).toNat = 0 from rfl] at hx52_4)
        (try simp only [Nat.reduceMul, Nat.zero_mul, Nat.zero_add, Nat.reduceAdd] at hx52_4)
        (try rw [show ((0 : Int)).toNat = 0 from rfl] at hf52_4)
        (try simp only [Nat.reduceMul, Nat.zero_mul, Nat.zero_add, Nat.reduceAdd] at hf52_4)
        replace p52 := eq_true p52
        replace q52 := eq_true q52
        have HX53 := Aside0.mk (show Kd.R k42 42 wr w.heap.size (fun _ => True) (.slice (some ⟨go52, 0, none⟩) x6_2.length co52) x6_2 from (by (with_reducible repeat (first | apply Kd.R_alloc | apply Kd.R_drewN | apply Kd.R_drew)); exact HO_6.out))
        obtain ⟨ce53, hcl53, hM53, hcc53, hfr53⟩ := Kd.R_elem HX53.out z42 (0 : Int) (by omega) (by have h_ : (0 : Int) < ((x6_2.length : Int) : Int) := of_decide_eq_true (by first | (with_reducible assumption) | assumption); first | exact h_ | (have e_ := (Kd.R_reads' HO_6.out).1; omega) | simpa using h_)
        obtain rfl := k42_openM hM53
        have HP53 := Kd.R_seg HX53.out (0 : Int) (by omega) (by have h_ : (0 : Int) < ((x6_2.length : Int) : Int) := of_decide_eq_true (by first | (with_reducible assumption) | assumption); first | exact h_ | (have e_ := (Kd.R_reads' HO_6.out).1; omega) | simpa using h_) (seg := [.int .i64 2]) (j := 3) hcl53 hcc53 (show 4 ≤ 5 from by decide) (x' := (⟨(rd_T42 x6_2 0).f0, (rd_T42 x6_2 0).f1, (rd_T42 x6_2 0).f2, 2, (rd_T42 x6_2 0).f4⟩ : S42)) (k42_mkM _ _ _ (⟨(rd_T42 x6_2 0).f0, (rd_T42 x6_2 0).f1, (rd_T42 x6_2 0).f2, 2, (rd_T42 x6_2 0).f4⟩ : S42) ) (fun _ hk => hk)
        have hx53_3 := hcc53 3 _ rfl
        (try simp only [show (k42).sz = 5 from rfl, Nat.mul_one, Nat.add_zero] at hx53_3)
        (try rw [show ((0 : Int)).toNat = 0 from rfl] at hx53_3)
        (try simp only [Nat.reduceMul, Nat.zero_mul, Nat.zero_add, Nat.reduceAdd] at hx53_3)
        have hf53_3 := hfr53 3
        (try simp only [show (k42).sz = 5 from rfl, Nat.mul_one, Nat.add_zero] at hf53_3)
        (try rw [show ((0 : Int)).toNat = 0 from rfl] at hf53_3)
        (try simp only [Nat.reduceMul, Nat.zero_mul, Nat.zero_add, Nat.reduceAdd] at hf53_3)
        clear hcl53 hcc53 hfr53 hM53
        go_wp2_with (first | ((with_reducible refine gate_store (t := 3) (p := 91) rfl ?_); refine store_event (t := 3) (p := 91) (v := ?vo_w54) (w1 := (wr.setCell ⟨go52, 3, none⟩ (.int .i64 2))) ?hg ?ho ?hn ?hr ?_; (case ho => rfl); (case hg => rfl); (case hn => rfl); (case hr => first | (go_simp; done) | (go_simp; rfl)); intro w54 hw; have hg : wr.grownBy w54 (some go52) := (by rw [hw]; exact HP53.2); have hp_ : Kd.R k42 42 w54 w.heap.size (fun _ => True) (.slice (some ⟨go52, 0, none⟩) x6_2.length co52) y569 := (by rw [hw, Ny569.out]; exact HP53.1); clear HP53; replace HO_6 := Aside0.mk (hp_); replace HB := Aside0.mk ((by rw [hw]; exact below_set (HB.out) GB52.out : Below w.heap.size w w54)); clear hg hw hp_))
        go_loopg [8] k2 (fun kq v8 w' => ∃ (x6_3 : List (S42)) (x8_3 : Int), v8 = .int .i64 x8_3 ∧ Aside0 (lockgatelaw06_FlowKnown.l4 kq x6_3 x8_3 = some r) ∧ Aside0 (kq ≤ k2) ∧ Aside0 (Kd.R k42 42 w' w.heap.size (fun _ => True) (.slice (some ⟨go52, 0, none⟩) x6_2.length co52) x6_3) ∧ Aside0 (Below w.heap.size w w'))
        case atStart => exact ⟨(y569), (0), (by first | rfl | (simp; done) | (simp [*]; done)), H', ⟨Nat.le_refl _⟩, ⟨by (with_reducible repeat (first | apply Kd.R_alloc | apply Kd.R_drewN | apply Kd.R_drew)); exact HO_6.out⟩, ⟨bz_⟩⟩
        case round =>
         clear H'
         try clear c1
         try clear c2
         try clear p2
         try clear c3
         try clear c3b0
         try clear q3
         try clear c4
         try clear q4
         try clear c5
         try clear c5b0
         try clear p5
         try clear q5
         try clear hx5
         try clear qi5
         try clear hf5
         try clear c6
         try clear c6b0
         try clear p6
         try clear c7
         try clear c7b0
         try clear c10
         try clear c10b0
         try clear c12
         try clear c16
         try clear c18
         try clear c20
         try clear c21
         try clear c21b0
         try clear c21b1
         try clear c23
         try clear c24
         try clear c24b0
         try clear c26
         try clear c27
         try clear c27b0
         try clear c27b1
         try clear c28
         try clear c28b0
         try clear c30
         try clear c31
         try clear c31b0
         try clear c32
         try clear c32b0
         try clear c34
         try clear q39
         try clear q41
         try clear c43
         try clear q43
         try clear c45
         try clear q45
         try clear c48
         try clear c48b0
         try clear c49
         try clear c51
         try clear c51b0
         try clear c51b1
         try clear c52
         try clear p52
         try clear q52
         try clear hx52
         try clear qi52
         try clear hf52
         try clear c53
         try clear p53
         try clear q53
         try clear hx53
         try clear hf53
         try clear hx52_0
         try clear hx52_1
         try clear hx52_2
         try clear hx52_3
         try clear hx52_4
         try clear hx538_0
         try clear hx53_3
         try clear p2
         try clear p5
         try clear p52
         try clear p538
         try clear p6
         try clear q3
         try clear q39
         try clear q4
         try clear q41
         try clear q43
         try clear q45
         try clear q5
         try clear q52
         try clear q538
         obtain ⟨x6_3, x8_3, rfl, HA, HK3, HO_6, HB⟩ := hrel
         have hl6_3 := (Kd.R_reads' HO_6.out).1
         rw [hl6_3] at HO_6
         (try simp only [hl6_3])
         cases gk with
         | zero => exact absurd HA.out (by simp [lockgatelaw06_FlowKnown.l4])
         | succ k3 =>
          have H := HA.out
          clear HA
          simp only [lockgatelaw06_FlowKnown.l4] at H
          by_cases c55 : x8_3 < 6
          ·rw [if_pos c55] at H
           have c55b0 : decide (x8_3 < 6) = true := decide_eq_true c55
           clear c55
           by_cases c56 : 0 ≤ x8_3
           ·rw [if_pos c56] at H
            have c56b0 : decide (0 ≤ x8_3) = true := decide_eq_true c56
            clear c56
            by_cases c57 : x8_3 < (x6_3.length : Int)
            ·rw [if_pos c57] at H
             have c57b0 : decide (x8_3 < (x6_3.length : Int)) = true := decide_eq_true c57
             clear c57
             obtain ⟨y570, hy570⟩ : ∃ y_ : List (S42), y_ = (x6_3.set (x8_3 : Int).toNat (⟨(rd_T42 x6_3 x8_3).f0, (rd_T42 x6_3 x8_3).f1, (rd_T42 x6_3 x8_3).f2, 3, (rd_T42 x6_3 x8_3).f4⟩ : S42)) := ⟨_, rfl⟩
             replace H : (if 0 ≤ (wrap64 (256 - x8_3)) then (if (wrap64 (256 - x8_3)) < (x6_3.length : Int) then ((some (y570.set ((wrap64 (256 - x8_3)) : Int).toNat (⟨(rd_T42 y570 (wrap64 (256 - x8_3))).f0, (rd_T42 y570 (wrap64 (256 - x8_3))).f1, (rd_T42 y570 (wrap64 (256 - x8_3))).f2, (-4), (rd_T42 y570 (wrap64 (256 - x8_3))).f4⟩ : S42) : List (S42))).bind fun y571 => (if 0 ≤ (wrap64 (255 - x8_3)) then (if (wrap64 (255 - x8_3)) < (x6_3.length : Int) then (lockgatelaw06_FlowKnown.l4 k3 (y571.set ((wrap64 (255 - x8_3)) : Int).toNat (⟨(rd_T42 y571 (wrap64 (255 - x8_3))).f0, (rd_T42 y571 (wrap64 (255 - x8_3))).f1, (rd_T42 y571 (wrap64 (255 - x8_3))).f2, (-4), (rd_T42 y571 (wrap64 (255 - x8_3))).f4⟩ : S42)) (wrap64 (x8_3 + 1))) else (none)) else (none))) else (none)) else (none)) = some r := by first | (rw [hy570]; with_reducible exact H) | (have H2_ := (Option.bind_some _ _).symm.trans H; rw [hy570]; with_reducible exact H2_) | (have H2_ := (Option.bind_some _ _).symm.trans H; with_reducible exact H2_) | with_reducible exact H | (rw [hy570]; exact H) | exact H
             have Ny570 := Aside0.mk hy570
             clear hy570
             obtain ⟨ji59, hji59⟩ : ∃ j_ : Int, (wrap64 (256 - x8_3)) = j_ := ⟨_, rfl⟩
             replace H : (if 0 ≤ (ji59) then (if (ji59) < (x6_3.length : Int) then ((some (y570.set ((ji59) : Int).toNat (⟨(rd_T42 y570 (ji59)).f0, (rd_T42 y570 (ji59)).f1, (rd_T42 y570 (ji59)).f2, (-4), (rd_T42 y570 (ji59)).f4⟩ : S42) : List (S42))).bind fun y571 => (if 0 ≤ (wrap64 (255 - x8_3)) then (if (wrap64 (255 - x8_3)) < (x6_3.length : Int) then (lockgatelaw06_FlowKnown.l4 k3 (y571.set ((wrap64 (255 - x8_3)) : Int).toNat (⟨(rd_T42 y571 (wrap64 (255 - x8_3))).f0, (rd_T42 y571 (wrap64 (255 - x8_3))).f1, (rd_T42 y571 (wrap64 (255 - x8_3))).f2, (-4), (rd_T42 y571 (wrap64 (255 - x8_3))).f4⟩ : S42)) (wrap64 (x8_3 + 1))) else (none)) else (none))) else (none)) else (none)) = some r := by first | (rw [hji59] at H; exact H) | (simp only [hji59] at H ⊢; exact H)
             have hji59w : (IntKind.i64.wrap (256 - x8_3)) = ji59 := (i64_w _).trans hji59
             by_cases c60 : 0 ≤ (ji59)
             ·rw [if_pos c60] at H
              have c60b0 : decide (0 ≤ (ji59)) = true := decide_eq_true c60
              clear c60
              by_cases c61 : (ji59) < (x6_3.length : Int)
              ·rw [if_pos c61] at H
               have c61b0 : decide ((ji59) < (x6_3.length : Int)) = true := decide_eq_true c61
               clear c61
               obtain ⟨y571, hy571⟩ : ∃ y_ : List (S42), y_ = (y570.set ((ji59) : Int).toNat (⟨(rd_T42 y570 (ji59)).f0, (rd_T42 y570 (ji59)).f1, (rd_T42 y570 (ji59)).f2, (-4), (rd_T42 y570 (ji59)).f4⟩ : S42)) := ⟨_, rfl⟩
               replace H : (if 0 ≤ (wrap64 (255 - x8_3)) then (if (wrap64 (255 - x8_3)) < (x6_3.length : Int) then (lockgatelaw06_FlowKnown.l4 k3 (y571.set ((wrap64 (255 - x8_3)) : Int).toNat (⟨(rd_T42 y571 (wrap64 (255 - x8_3))).f0, (rd_T42 y571 (wrap64 (255 - x8_3))).f1, (rd_T42 y571 (wrap64 (255 - x8_3))).f2, (-4), (rd_T42 y571 (wrap64 (255 - x8_3))).f4⟩ : S42)) (wrap64 (x8_3 + 1))) else (none)) else (none)) = some r := by first | (rw [hy571]; with_reducible exact H) | (have H2_ := (Option.bind_some _ _).symm.trans H; rw [hy571]; with_reducible exact H2_) | (have H2_ := (Option.bind_some _ _).symm.trans H; with_reducible exact H2_) | with_reducible exact H | (rw [hy571]; exact H) | exact H
               have Ny571 := Aside0.mk hy571
               clear hy571
               obtain ⟨ji63, hji63⟩ : ∃ j_ : Int, (wrap64 (255 - x8_3)) = j_ := ⟨_, rfl⟩
               replace H : (if 0 ≤ (ji63) then (if (ji63) < (x6_3.length : Int) then (lockgatelaw06_FlowKnown.l4 k3 (y571.set ((ji63) : Int).toNat (⟨(rd_T42 y571 (ji63)).f0, (rd_T42 y571 (ji63)).f1, (rd_T42 y571 (ji63)).f2, (-4), (rd_T42 y571 (ji63)).f4⟩ : S42)) (wrap64 (x8_3 + 1))) else (none)) else (none)) = some r := by first | (rw [hji63] at H; exact H) | (simp only [hji63] at H ⊢; exact H)
               have hji63w : (IntKind.i64.wrap (255 - x8_3)) = ji63 := (i64_w _).trans hji63
               by_cases c64 : 0 ≤ (ji63)
               ·rw [if_pos c64] at H
                have c64b0 : decide (0 ≤ (ji63)) = true := decide_eq_true c64
                clear c64
                by_cases c65 : (ji63) < (x6_3.length : Int)
                ·rw [if_pos c65] at H
                 have c65b0 : decide ((ji63) < (x6_3.length : Int)) = true := decide_eq_true c65
                 clear c65
                 obtain ⟨y572, hy572⟩ : ∃ y_ : List (S42), y_ = (y571.set ((ji63) : Int).toNat (⟨(rd_T42 y571 (ji63)).f0, (rd_T42 y571 (ji63)).f1, (rd_T42 y571 (ji63)).f2, (-4), (rd_T42 y571 (ji63)).f4⟩ : S42)) := ⟨_, rfl⟩
                 replace H : (lockgatelaw06_FlowKnown.l4 k3 y572 (wrap64 (x8_3 + 1))) = some r := by first | (rw [hy572]; with_reducible exact H) | (have H2_ := (Option.bind_some _ _).symm.trans H; rw [hy572]; with_reducible exact H2_) | (have H2_ := (Option.bind_some _ _).symm.trans H; with_reducible exact H2_) | with_reducible exact H | (rw [hy572]; exact H) | exact H
                 have Ny572 := Aside0.mk hy572
                 clear hy572
                 have H' := Aside0.mk H
                 clear H
                 have p58 : 0 ≤ (x8_3 : Int) := of_decide_eq_true (by first | (with_reducible assumption) | assumption)
                 have q58 : (x8_3 : Int) < ((x6_3.length : Int) : Int) := of_decide_eq_true (by first | (with_reducible assumption) | assumption)
                 obtain ⟨ce58, hcl58, hM58, hcc58, hfr58⟩ := Kd.R_elem HO_6.out z42 (x8_3 : Int) p58 q58
                 obtain rfl := k42_openM hM58
                 have hx58_0 : wr.cell? ⟨go52, (x8_3 : Int).toNat * 5, none⟩ = some (.int .i64 ((rd_T42 x6_3 x8_3).f0)) := hcc58 0 _ rfl
                 have hx58_1 : wr.cell? ⟨go52, (x8_3 : Int).toNat * 5 + 1, none⟩ = some (.int .i64 ((rd_T42 x6_3 x8_3).f1)) := hcc58 1 _ rfl
                 have hx58_2 : wr.cell? ⟨go52, (x8_3 : Int).toNat * 5 + 2, none⟩ = some (.int .i64 ((rd_T42 x6_3 x8_3).f2)) := hcc58 2 _ rfl
                 have hx58_3 : wr.cell? ⟨go52, (x8_3 : Int).toNat * 5 + 3, none⟩ = some (.int .i64 ((rd_T42 x6_3 x8_3).f3)) := hcc58 3 _ rfl
                 have hx58_4 : wr.cell? ⟨go52, (x8_3 : Int).toNat * 5 + 4, none⟩ = some (.int .i64 ((rd_T42 x6_3 x8_3).f4)) := hcc58 4 _ rfl
                 have hf58_0 : wr.frozen? ⟨go52, (x8_3 : Int).toNat * 5, none⟩ = false := hfr58 0
                 have hf58_1 : wr.frozen? ⟨go52, (x8_3 : Int).toNat * 5 + 1, none⟩ = false := hfr58 1
                 have hf58_2 : wr.frozen? ⟨go52, (x8_3 : Int).toNat * 5 + 2, none⟩ = false := hfr58 2
                 have hf58_3 : wr.frozen? ⟨go52, (x8_3 : Int).toNat * 5 + 3, none⟩ = false := hfr58 3
                 have hf58_4 : wr.frozen? ⟨go52, (x8_3 : Int).toNat * 5 + 4, none⟩ = false := hfr58 4
                 clear hcl58 hcc58 hfr58 hM58
                 replace p58 := eq_true p58
                 replace q58 := eq_true q58
                 have HX67 := Aside0.mk (show Kd.R k42 42 wr w.heap.size (fun _ => True) (.slice (some ⟨go52, 0, none⟩) x6_3.length co52) x6_3 from (by (with_reducible repeat (first | apply Kd.R_alloc | apply Kd.R_drewN | apply Kd.R_drew)); exact HO_6.out))
                 obtain ⟨ce67, hcl67, hM67, hcc67, hfr67⟩ := Kd.R_elem HX67.out z42 (x8_3 : Int) (of_decide_eq_true (by first | (with_reducible assumption) | assumption)) (by have h_ : (x8_3 : Int) < ((x6_3.length : Int) : Int) := of_decide_eq_true (by first | (with_reducible assumption) | assumption); first | exact h_ | (have e_ := (Kd.R_reads' HO_6.out).1; omega) | simpa using h_)
                 obtain rfl := k42_openM hM67
                 have HP67 := Kd.R_seg HX67.out (x8_3 : Int) (of_decide_eq_true (by first | (with_reducible assumption) | assumption)) (by have h_ : (x8_3 : Int) < ((x6_3.length : Int) : Int) := of_decide_eq_true (by first | (with_reducible assumption) | assumption); first | exact h_ | (have e_ := (Kd.R_reads' HO_6.out).1; omega) | simpa using h_) (seg := [.int .i64 3]) (j := 3) hcl67 hcc67 (show 4 ≤ 5 from by decide) (x' := (⟨(rd_T42 x6_3 x8_3).f0, (rd_T42 x6_3 x8_3).f1, (rd_T42 x6_3 x8_3).f2, 3, (rd_T42 x6_3 x8_3).f4⟩ : S42)) (k42_mkM _ _ _ (⟨(rd_T42 x6_3 x8_3).f0, (rd_T42 x6_3 x8_3).f1, (rd_T42 x6_3 x8_3).f2, 3, (rd_T42 x6_3 x8_3).f4⟩ : S42) ) (fun _ hk => hk)
                 have hx67_3 := hcc67 3 _ rfl
                 (try simp only [show (k42).sz = 5 from rfl, Nat.mul_one, Nat.add_zero] at hx67_3)
                 have hf67_3 := hfr67 3
                 (try simp only [show (k42).sz = 5 from rfl, Nat.mul_one, Nat.add_zero] at hf67_3)
                 clear hcl67 hcc67 hfr67 hM67
                 go_wp2_with (first | ((with_reducible refine gate_store (t := 3) (p := 99) rfl ?_); refine store_event (t := 3) (p := 99) (v := ?vo_w68) (w1 := (wr.setCell ⟨go52, (x8_3 : Int).toNat * 5 + 3, none⟩ (.int .i64 3))) ?hg ?ho ?hn ?hr ?_; (case ho => rfl); (case hg => rfl); (case hn => rfl); (case hr => first | (go_simp; done) | (go_simp; rfl)); intro w68 hw; have hg : wr.grownBy w68 (some go52) := (by rw [hw]; exact HP67.2); have hp_ : Kd.R k42 42 w68 w.heap.size (fun _ => True) (.slice (some ⟨go52, 0, none⟩) x6_3.length co52) y570 := (by rw [hw, Ny570.out]; exact HP67.1); clear HP67; replace HO_6 := Aside0.mk (hp_); replace HB := Aside0.mk ((by rw [hw]; exact below_set (HB.out) GB52.out : Below w.heap.size w w68)); clear hg hw hp_; have p62 : 0 ≤ ((ji59) : Int) := of_decide_eq_true (by first | (with_reducible assumption) | assumption); have q62 : ((ji59) : Int) < ((x6_3.length : Int) : Int) := of_decide_eq_true (by first | (with_reducible assumption) | assumption); obtain ⟨ce62, hcl62, hM62, hcc62, hfr62⟩ := Kd.R_elem HO_6.out z42 ((ji59) : Int) p62 q62; obtain rfl := k42_openM hM62; have hx62_0 : w68.cell? ⟨go52, ((ji59) : Int).toNat * 5, none⟩ = some (.int .i64 ((rd_T42 y570 (ji59)).f0)) := hcc62 0 _ rfl; have hx62_1 : w68.cell? ⟨go52, ((ji59) : Int).toNat * 5 + 1, none⟩ = some (.int .i64 ((rd_T42 y570 (ji59)).f1)) := hcc62 1 _ rfl; have hx62_2 : w68.cell? ⟨go52, ((ji59) : Int).toNat * 5 + 2, none⟩ = some (.int .i64 ((rd_T42 y570 (ji59)).f2)) := hcc62 2 _ rfl; have hx62_3 : w68.cell? ⟨go52, ((ji59) : Int).toNat * 5 + 3, none⟩ = some (.int .i64 ((rd_T42 y570 (ji59)).f3)) := hcc62 3 _ rfl; have hx62_4 : w68.cell? ⟨go52, ((ji59) : Int).toNat * 5 + 4, none⟩ = some (.int .i64 ((rd_T42 y570 (ji59)).f4)) := hcc62 4 _ rfl; have hf62_0 : w68.frozen? ⟨go52, ((ji59) : Int).toNat * 5, none⟩ = false := hfr62 0; have hf62_1 : w68.frozen? ⟨go52, ((ji59) : Int).toNat * 5 + 1, none⟩ = false := hfr62 1; have hf62_2 : w68.frozen? ⟨go52, ((ji59) : Int).toNat * 5 + 2, none⟩ = false := hfr62 2; have hf62_3 : w68.frozen? ⟨go52, ((ji59) : Int).toNat * 5 + 3, none⟩ = false := hfr62 3; have hf62_4 : w68.frozen? ⟨go52, ((ji59) : Int).toNat * 5 + 4, none⟩ = false := hfr62 4; clear hcl62 hcc62 hfr62 hM62; replace p62 := eq_true p62; replace q62 := eq_true q62; have HX69 := Aside0.mk (show Kd.R k42 42 w68 w.heap.size (fun _ => True) (.slice (some ⟨go52, 0, none⟩) x6_3.length co52) y570 from (by (with_reducible repeat (first | apply Kd.R_alloc | apply Kd.R_drewN | apply Kd.R_drew)); exact HO_6.out)); obtain ⟨ce69, hcl69, hM69, hcc69, hfr69⟩ := Kd.R_elem HX69.out z42 ((ji59) : Int) (of_decide_eq_true (by first | (with_reducible assumption) | assumption)) (by have h_ : ((ji59) : Int) < ((x6_3.length : Int) : Int) := of_decide_eq_true (by first | (with_reducible assumption) | assumption); first | exact h_ | (have e_ := (Kd.R_reads' HO_6.out).1; omega) | simpa using h_); obtain rfl := k42_openM hM69; have HP69 := Kd.R_seg HX69.out ((ji59) : Int) (of_decide_eq_true (by first | (with_reducible assumption) | assumption)) (by have h_ : ((ji59) : Int) < ((x6_3.length : Int) : Int) := of_decide_eq_true (by first | (with_reducible assumption) | assumption); first | exact h_ | (have e_ := (Kd.R_reads' HO_6.out).1; omega) | simpa using h_) (seg := [.int .i64 (-4)]) (j := 3) hcl69 hcc69 (show 4 ≤ 5 from by decide) (x' := (⟨(rd_T42 y570 (ji59)).f0, (rd_T42 y570 (ji59)).f1, (rd_T42 y570 (ji59)).f2, (-4), (rd_T42 y570 (ji59)).f4⟩ : S42)) (k42_mkM _ _ _ (⟨(rd_T42 y570 (ji59)).f0, (rd_T42 y570 (ji59)).f1, (rd_T42 y570 (ji59)).f2, (-4), (rd_T42 y570 (ji59)).f4⟩ : S42) ) (fun _ hk => hk); have hx69_3 := hcc69 3 _ rfl; (try simp only [show (k42).sz = 5 from rfl, Nat.mul_one, Nat.add_zero] at hx69_3); have hf69_3 := hfr69 3; (try simp only [show (k42).sz = 5 from rfl, Nat.mul_one, Nat.add_zero] at hf69_3); clear hcl69 hcc69 hfr69 hM69) | ((with_reducible refine gate_store (t := 3) (p := 104) rfl ?_); refine store_event (t := 3) (p := 104) (v := ?vo_w70) (w1 := (w68.setCell ⟨go52, ((ji59) : Int).toNat * 5 + 3, none⟩ (.int .i64 (-4)))) ?hg ?ho ?hn ?hr ?_; (case ho => rfl); (case hg => rfl); (case hn => rfl); (case hr => first | (go_simp; done) | (go_simp; rfl)); intro w70 hw; have hg : w68.grownBy w70 (some go52) := (by rw [hw]; exact HP69.2); have hp_ : Kd.R k42 42 w70 w.heap.size (fun _ => True) (.slice (some ⟨go52, 0, none⟩) x6_3.length co52) y571 := (by rw [hw, Ny571.out]; exact HP69.1); clear HP69; replace HO_6 := Aside0.mk (hp_); replace HB := Aside0.mk ((by rw [hw]; exact below_set (HB.out) GB52.out : Below w.heap.size w w70)); clear hg hw hp_; have p66 : 0 ≤ ((ji63) : Int) := of_decide_eq_true (by first | (with_reducible assumption) | assumption); have q66 : ((ji63) : Int) < ((x6_3.length : Int) : Int) := of_decide_eq_true (by first | (with_reducible assumption) | assumption); obtain ⟨ce66, hcl66, hM66, hcc66, hfr66⟩ := Kd.R_elem HO_6.out z42 ((ji63) : Int) p66 q66; obtain rfl := k42_openM hM66; have hx66_0 : w70.cell? ⟨go52, ((ji63) : Int).toNat * 5, none⟩ = some (.int .i64 ((rd_T42 y571 (ji63)).f0)) := hcc66 0 _ rfl; have hx66_1 : w70.cell? ⟨go52, ((ji63) : Int).toNat * 5 + 1, none⟩ = some (.int .i64 ((rd_T42 y571 (ji63)).f1)) := hcc66 1 _ rfl; have hx66_2 : w70.cell? ⟨go52, ((ji63) : Int).toNat * 5 + 2, none⟩ = some (.int .i64 ((rd_T42 y571 (ji63)).f2)) := hcc66 2 _ rfl; have hx66_3 : w70.cell? ⟨go52, ((ji63) : Int).toNat * 5 + 3, none⟩ = some (.int .i64 ((rd_T42 y571 (ji63)).f3)) := hcc66 3 _ rfl; have hx66_4 : w70.cell? ⟨go52, ((ji63) : Int).toNat * 5 + 4, none⟩ = some (.int .i64 ((rd_T42 y571 (ji63)).f4)) := hcc66 4 _ rfl; have hf66_0 : w70.frozen? ⟨go52, ((ji63) : Int).toNat * 5, none⟩ = false := hfr66 0; have hf66_1 : w70.frozen? ⟨go52, ((ji63) : Int).toNat * 5 + 1, none⟩ = false := hfr66 1; have hf66_2 : w70.frozen? ⟨go52, ((ji63) : Int).toNat * 5 + 2, none⟩ = false := hfr66 2; have hf66_3 : w70.frozen? ⟨go52, ((ji63) : Int).toNat * 5 + 3, none⟩ = false := hfr66 3; have hf66_4 : w70.frozen? ⟨go52, ((ji63) : Int).toNat * 5 + 4, none⟩ = false := hfr66 4; clear hcl66 hcc66 hfr66 hM66; replace p66 := eq_true p66; replace q66 := eq_true q66; have HX71 := Aside0.mk (show Kd.R k42 42 w70 w.heap.size (fun _ => True) (.slice (some ⟨go52, 0, none⟩) x6_3.length co52) y571 from (by (with_reducible repeat (first | apply Kd.R_alloc | apply Kd.R_drewN | apply Kd.R_drew)); exact HO_6.out)); obtain ⟨ce71, hcl71, hM71, hcc71, hfr71⟩ := Kd.R_elem HX71.out z42 ((ji63) : Int) (of_decide_eq_true (by first | (with_reducible assumption) | assumption)) (by have h_ : ((ji63) : Int) < ((x6_3.length : Int) : Int) := of_decide_eq_true (by first | (with_reducible assumption) | assumption); first | exact h_ | (have e_ := (Kd.R_reads' HO_6.out).1; omega) | simpa using h_); obtain rfl := k42_openM hM71; have HP71 := Kd.R_seg HX71.out ((ji63) : Int) (of_decide_eq_true (by first | (with_reducible assumption) | assumption)) (by have h_ : ((ji63) : Int) < ((x6_3.length : Int) : Int) := of_decide_eq_true (by first | (with_reducible assumption) | assumption); first | exact h_ | (have e_ := (Kd.R_reads' HO_6.out).1; omega) | simpa using h_) (seg := [.int .i64 (-4)]) (j := 3) hcl71 hcc71 (show 4 ≤ 5 from by decide) (x' := (⟨(rd_T42 y571 (ji63)).f0, (rd_T42 y571 (ji63)).f1, (rd_T42 y571 (ji63)).f2, (-4), (rd_T42 y571 (ji63)).f4⟩ : S42)) (k42_mkM _ _ _ (⟨(rd_T42 y571 (ji63)).f0, (rd_T42 y571 (ji63)).f1, (rd_T42 y571 (ji63)).f2, (-4), (rd_T42 y571 (ji63)).f4⟩ : S42) ) (fun _ hk => hk); have hx71_3 := hcc71 3 _ rfl; (try simp only [show (k42).sz = 5 from rfl, Nat.mul_one, Nat.add_zero] at hx71_3); have hf71_3 := hfr71 3; (try simp only [show (k42).sz = 5 from rfl, Nat.mul_one, Nat.add_zero] at hf71_3); clear hcl71 hcc71 hfr71 hM71) | ((with_reducible refine gate_store (t := 3) (p := 109) rfl ?_); refine store_event (t := 3) (p := 109) (v := ?vo_w72) (w1 := (w70.setCell ⟨go52, ((ji63) : Int).toNat * 5 + 3, none⟩ (.int .i64 (-4)))) ?hg ?ho ?hn ?hr ?_; (case ho => rfl); (case hg => rfl); (case hn => rfl); (case hr => first | (go_simp; done) | (go_simp; rfl)); intro w72 hw; have hg : w70.grownBy w72 (some go52) := (by rw [hw]; exact HP71.2); have hp_ : Kd.R k42 42 w72 w.heap.size (fun _ => True) (.slice (some ⟨go52, 0, none⟩) x6_3.length co52) y572 := (by rw [hw, Ny572.out]; exact HP71.1); clear HP71; replace HO_6 := Aside0.mk (hp_); replace HB := Aside0.mk ((by rw [hw]; exact below_set (HB.out) GB52.out : Below w.heap.size w w72)); clear hg hw hp_))
                 (try simp only [← hl6_3])
                 go_roundg k3
                 case measure => have := HK1.out; have := HK2.out; have := HK3.out; omega
                 case rel => exact ⟨(y572), (wrap64 (x8_3 + 1)), (by first | rfl | (simp; done) | (simp [*]; done)), H', ⟨by have := HK1.out; have := HK2.out; have := HK3.out; omega⟩, ⟨by (try simp only [hl6_3]); (with_reducible repeat (first | apply Kd.R_alloc | apply Kd.R_drewN | apply Kd.R_drew)); exact HO_6.out⟩, ⟨bz_⟩⟩
                ·rw [if_neg c65] at H
                 exact absurd H (by simp)
               ·rw [if_neg c64] at H
                exact absurd H (by simp)
              ·rw [if_neg c61] at H
               exact absurd H (by simp)
             ·rw [if_neg c60] at H
              exact absurd H (by simp)
            ·rw [if_neg c57] at H
             exact absurd H (by simp)
           ·rw [if_neg c56] at H
            exact absurd H (by simp)
          ·rw [if_neg c55] at H
           have c55b0 : decide (x8_3 < 6) = false := decide_eq_false c55
           clear c55
           replace H := Option.bind_eq_some_iff.mp H
           obtain ⟨t573, A730, H⟩ := H
           replace H : (if t573 = true then (if 256 ≤ (x6_3.length : Int) then ((lockgatelaw06_FlowTells.f k3 (x6_3.take 256) 3).bind fun t578 => (if t578 = true then ((lockgatelaw06_FlowLands.f k3 x6_3).bind fun t579 => (if t579 = true then ((lockgatelaw06_FlowInside.f k3 (x6_3.take 256)).bind fun t584 => (if t584 = true then ((lockgatelaw06_FlowTells.f k3 ([] : List (S42)) 0).bind fun t585 => (if t585 = true then ((lockgatelaw06_FlowLands.f k3 ([] : List (S42))).bind fun t586 => (if t586 = true then ((lockgatelaw06_FlowTells.f k3 (([(⟨183, 0, 0, 0, 0⟩ : S42)] : List (S42))) 0).bind fun t590 => (if t590 = true then ((lockgatelaw06_works.f k3).bind fun t591 => (some t591)) else (some false))) else (some false))) else (some false))) else (some false))) else (some false))) else (some false))) else (none)) else (some false)) = some r := H
           have A73 := Aside0.mk A730
           clear A730
           by_cases c74 : t573 = true
           ·subst c74
            have H1 : (if 256 ≤ (x6_3.length : Int) then ((lockgatelaw06_FlowTells.f k3 (x6_3.take 256) 3).bind fun t578 => (if t578 = true then ((lockgatelaw06_FlowLands.f k3 x6_3).bind fun t579 => (if t579 = true then ((lockgatelaw06_FlowInside.f k3 (x6_3.take 256)).bind fun t584 => (if t584 = true then ((lockgatelaw06_FlowTells.f k3 ([] : List (S42)) 0).bind fun t585 => (if t585 = true then ((lockgatelaw06_FlowLands.f k3 ([] : List (S42))).bind fun t586 => (if t586 = true then ((lockgatelaw06_FlowTells.f k3 (([(⟨183, 0, 0, 0, 0⟩ : S42)] : List (S42))) 0).bind fun t590 => (if t590 = true then ((lockgatelaw06_works.f k3).bind fun t591 => (some t591)) else (some false))) else (some false))) else (some false))) else (some false))) else (some false))) else (some false))) else (none)) = some r := by rw [if_pos rfl] at H; exact H
            clear H
            have H := H1
            clear H1
            by_cases c75 : 256 ≤ (x6_3.length : Int)
            ·rw [if_pos c75] at H
             have c75b0 := eq_true c75
             have c75b1 : decide (256 ≤ (x6_3.length : Int)) = true := decide_eq_true c75
             clear c75
             obtain ⟨y574, hy574⟩ : ∃ y_ : List (S42), y_ = (x6_3.take 256) := ⟨_, rfl⟩
             replace H : ((lockgatelaw06_FlowTells.f k3 y574 3).bind fun t578 => (if t578 = true then ((lockgatelaw06_FlowLands.f k3 x6_3).bind fun t579 => (if t579 = true then ((lockgatelaw06_FlowInside.f k3 (x6_3.take 256)).bind fun t584 => (if t584 = true then ((lockgatelaw06_FlowTells.f k3 ([] : List (S42)) 0).bind fun t585 => (if t585 = true then ((lockgatelaw06_FlowLands.f k3 ([] : List (S42))).bind fun t586 => (if t586 = true then ((lockgatelaw06_FlowTells.f k3 (([(⟨183, 0, 0, 0, 0⟩ : S42)] : List (S42))) 0).bind fun t590 => (if t590 = true then ((lockgatelaw06_works.f k3).bind fun t591 => (some t591)) else (some false))) else (some false))) else (some false))) else (some false))) else (some false))) else (some false))) = some r := by first | (rw [hy574]; with_reducible exact H) | (have H2_ := (Option.bind_some _ _).symm.trans H; rw [hy574]; with_reducible exact H2_) | (have H2_ := (Option.bind_some _ _).symm.trans H; with_reducible exact H2_) | with_reducible exact H | (rw [hy574]; exact H) | exact H
             have Ny574 := Aside0.mk hy574
             clear hy574
             replace H := Option.bind_eq_some_iff.mp H
             obtain ⟨t578, A760, H⟩ := H
             replace H : (if t578 = true then ((lockgatelaw06_FlowLands.f k3 x6_3).bind fun t579 => (if t579 = true then ((lockgatelaw06_FlowInside.f k3 (x6_3.take 256)).bind fun t584 => (if t584 = true then ((lockgatelaw06_FlowTells.f k3 ([] : List (S42)) 0).bind fun t585 => (if t585 = true then ((lockgatelaw06_FlowLands.f k3 ([] : List (S42))).bind fun t586 => (if t586 = true then ((lockgatelaw06_FlowTells.f k3 (([(⟨183, 0, 0, 0, 0⟩ : S42)] : List (S42))) 0).bind fun t590 => (if t590 = true then ((lockgatelaw06_works.f k3).bind fun t591 => (some t591)) else (some false))) else (some false))) else (some false))) else (some false))) else (some false))) else (some false)) = some r := H
             have A76 := Aside0.mk A760
             clear A760
             by_cases c77 : t578 = true
             ·subst c77
              have H1 : ((lockgatelaw06_FlowLands.f k3 x6_3).bind fun t579 => (if t579 = true then ((lockgatelaw06_FlowInside.f k3 (x6_3.take 256)).bind fun t584 => (if t584 = true then ((lockgatelaw06_FlowTells.f k3 ([] : List (S42)) 0).bind fun t585 => (if t585 = true then ((lockgatelaw06_FlowLands.f k3 ([] : List (S42))).bind fun t586 => (if t586 = true then ((lockgatelaw06_FlowTells.f k3 (([(⟨183, 0, 0, 0, 0⟩ : S42)] : List (S42))) 0).bind fun t590 => (if t590 = true then ((lockgatelaw06_works.f k3).bind fun t591 => (some t591)) else (some false))) else (some false))) else (some false))) else (some false))) else (some false))) = some r := by rw [if_pos rfl] at H; exact H
              clear H
              have H := H1
              clear H1
              replace H := Option.bind_eq_some_iff.mp H
              obtain ⟨t579, A780, H⟩ := H
              replace H : (if t579 = true then ((lockgatelaw06_FlowInside.f k3 (x6_3.take 256)).bind fun t584 => (if t584 = true then ((lockgatelaw06_FlowTells.f k3 ([] : List (S42)) 0).bind fun t585 => (if t585 = true then ((lockgatelaw06_FlowLands.f k3 ([] : List (S42))).bind fun t586 => (if t586 = true then ((lockgatelaw06_FlowTells.f k3 (([(⟨183, 0, 0, 0, 0⟩ : S42)] : List (S42))) 0).bind fun t590 => (if t590 = true then ((lockgatelaw06_works.f k3).bind fun t591 => (some t591)) else (some false))) else (some false))) else (some false))) else (some false))) else (some false)) = some r := H
              have A78 := Aside0.mk A780
              clear A780
              by_cases c79 : t579 = true
              ·subst c79
               have H1 : ((lockgatelaw06_FlowInside.f k3 (x6_3.take 256)).bind fun t584 => (if t584 = true then ((lockgatelaw06_FlowTells.f k3 ([] : List (S42)) 0).bind fun t585 => (if t585 = true then ((lockgatelaw06_FlowLands.f k3 ([] : List (S42))).bind fun t586 => (if t586 = true then ((lockgatelaw06_FlowTells.f k3 (([(⟨183, 0, 0, 0, 0⟩ : S42)] : List (S42))) 0).bind fun t590 => (if t590 = true then ((lockgatelaw06_works.f k3).bind fun t591 => (some t591)) else (some false))) else (some false))) else (some false))) else (some false))) = some r := by rw [if_pos rfl] at H; exact H
               clear H
               have H := H1
               clear H1
               have c80b0 := eq_true (of_decide_eq_true (by first | (with_reducible assumption) | assumption) : 256 ≤ (x6_3.length : Int))
               have hy580 := Ny574.out
               replace H : ((lockgatelaw06_FlowInside.f k3 y574).bind fun t584 => (if t584 = true then ((lockgatelaw06_FlowTells.f k3 ([] : List (S42)) 0).bind fun t585 => (if t585 = true then ((lockgatelaw06_FlowLands.f k3 ([] : List (S42))).bind fun t586 => (if t586 = true then ((lockgatelaw06_FlowTells.f k3 (([(⟨183, 0, 0, 0, 0⟩ : S42)] : List (S42))) 0).bind fun t590 => (if t590 = true then ((lockgatelaw06_works.f k3).bind fun t591 => (some t591)) else (some false))) else (some false))) else (some false))) else (some false))) = some r := by first | (rw [hy580]; with_reducible exact H) | (have H2_ := (Option.bind_some _ _).symm.trans H; rw [hy580]; with_reducible exact H2_) | (have H2_ := (Option.bind_some _ _).symm.trans H; with_reducible exact H2_) | with_reducible exact H | (rw [hy580]; exact H) | exact H
               have Ny580 := Aside0.mk hy580
               clear hy580
               replace H := Option.bind_eq_some_iff.mp H
               obtain ⟨t584, A810, H⟩ := H
               replace H : (if t584 = true then ((lockgatelaw06_FlowTells.f k3 ([] : List (S42)) 0).bind fun t585 => (if t585 = true then ((lockgatelaw06_FlowLands.f k3 ([] : List (S42))).bind fun t586 => (if t586 = true then ((lockgatelaw06_FlowTells.f k3 (([(⟨183, 0, 0, 0, 0⟩ : S42)] : List (S42))) 0).bind fun t590 => (if t590 = true then ((lockgatelaw06_works.f k3).bind fun t591 => (some t591)) else (some false))) else (some false))) else (some false))) else (some false)) = some r := H
               have A81 := Aside0.mk A810
               clear A810
               by_cases c82 : t584 = true
               ·subst c82
                have H1 : ((lockgatelaw06_FlowTells.f k3 ([] : List (S42)) 0).bind fun t585 => (if t585 = true then ((lockgatelaw06_FlowLands.f k3 ([] : List (S42))).bind fun t586 => (if t586 = true then ((lockgatelaw06_FlowTells.f k3 (([(⟨183, 0, 0, 0, 0⟩ : S42)] : List (S42))) 0).bind fun t590 => (if t590 = true then ((lockgatelaw06_works.f k3).bind fun t591 => (some t591)) else (some false))) else (some false))) else (some false))) = some r := by rw [if_pos rfl] at H; exact H
                clear H
                have H := H1
                clear H1
                replace H := Option.bind_eq_some_iff.mp H
                obtain ⟨t585, A830, H⟩ := H
                replace H : (if t585 = true then ((lockgatelaw06_FlowLands.f k3 ([] : List (S42))).bind fun t586 => (if t586 = true then ((lockgatelaw06_FlowTells.f k3 (([(⟨183, 0, 0, 0, 0⟩ : S42)] : List (S42))) 0).bind fun t590 => (if t590 = true then ((lockgatelaw06_works.f k3).bind fun t591 => (some t591)) else (some false))) else (some false))) else (some false)) = some r := H
                have A83 := Aside0.mk A830
                clear A830
                by_cases c84 : t585 = true
                ·subst c84
                 have H1 : ((lockgatelaw06_FlowLands.f k3 ([] : List (S42))).bind fun t586 => (if t586 = true then ((lockgatelaw06_FlowTells.f k3 (([(⟨183, 0, 0, 0, 0⟩ : S42)] : List (S42))) 0).bind fun t590 => (if t590 = true then ((lockgatelaw06_works.f k3).bind fun t591 => (some t591)) else (some false))) else (some false))) = some r := by rw [if_pos rfl] at H; exact H
                 clear H
                 have H := H1
                 clear H1
                 replace H := Option.bind_eq_some_iff.mp H
                 obtain ⟨t586, A850, H⟩ := H
                 replace H : (if t586 = true then ((lockgatelaw06_FlowTells.f k3 (([(⟨183, 0, 0, 0, 0⟩ : S42)] : List (S42))) 0).bind fun t590 => (if t590 = true then ((lockgatelaw06_works.f k3).bind fun t591 => (some t591)) else (some false))) else (some false)) = some r := H
                 have A85 := Aside0.mk A850
                 clear A850
                 by_cases c86 : t586 = true
                 ·subst c86
                  have H1 : ((lockgatelaw06_FlowTells.f k3 (([(⟨183, 0, 0, 0, 0⟩ : S42)] : List (S42))) 0).bind fun t590 => (if t590 = true then ((lockgatelaw06_works.f k3).bind fun t591 => (some t591)) else (some false))) = some r := by rw [if_pos rfl] at H; exact H
                  clear H
                  have H := H1
                  clear H1
                  obtain ⟨y587, hy587⟩ : ∃ y_ : List (S42), y_ = (([(⟨183, 0, 0, 0, 0⟩ : S42)] : List (S42))) := ⟨_, rfl⟩
                  replace H : ((lockgatelaw06_FlowTells.f k3 y587 0).bind fun t590 => (if t590 = true then ((lockgatelaw06_works.f k3).bind fun t591 => (some t591)) else (some false))) = some r := by first | (rw [hy587]; with_reducible exact H) | (have H2_ := (Option.bind_some _ _).symm.trans H; rw [hy587]; with_reducible exact H2_) | (have H2_ := (Option.bind_some _ _).symm.trans H; with_reducible exact H2_) | with_reducible exact H | (rw [hy587]; exact H) | exact H
                  have Ny587 := Aside0.mk hy587
                  clear hy587
                  replace H := Option.bind_eq_some_iff.mp H
                  obtain ⟨t590, A870, H⟩ := H
                  replace H : (if t590 = true then ((lockgatelaw06_works.f k3).bind fun t591 => (some t591)) else (some false)) = some r := H
                  have A87 := Aside0.mk A870
                  clear A870
                  by_cases c88 : t590 = true
                  ·subst c88
                   have H1 : ((lockgatelaw06_works.f k3).bind fun t591 => (some t591)) = some r := by rw [if_pos rfl] at H; exact H
                   clear H
                   have H := H1
                   clear H1
                   replace H := Option.bind_eq_some_iff.mp H
                   obtain ⟨t591, A890, H⟩ := H
                   replace H : (some t591) = some r := H
                   have A89 := Aside0.mk A890
                   clear A890
                   obtain rfl := Option.some.inj H
                   go_wp2_with (first | ((with_reducible refine gate_callee (f := 3) rfl ?_); refine goesL_ (some 111) rfl rfl Try.func3 (by kernel_rfl) rfl #[.slice (some ⟨go52, 0, none⟩) x6_3.length co52, .int .i64 3] rfl (by (try simp only [List.map_toArray, List.map_cons, List.map_nil]); first | done | rfl | (simp only [List.length_drop, List.length_take]; rfl)) ?_; (with_reducible refine (lockgatelaw06_FlowTells.calls k3 _ _ x6_3 3 true _ ?side1 ?side2 (.mk rfl) A73.out).mono ?_); (case side1 => repeat (first | exact (Kd.R_reads' HO_6.out).2.2 | (with_reducible refine Kd.C_alloc ?_ _) | (with_reducible refine Kd.C_drewN ?_ _) | (with_reducible refine Kd.C_drew ?_))); (case side2 => exact (Kd.R_reads' HO_6.out).2.1); rintro e w90 ⟨rfl, hb⟩; refine ⟨_, rfl, ?_⟩; replace HO_6 := Aside0.mk (Kd.R_below (by (with_reducible repeat (first | apply Kd.R_alloc | apply Kd.R_drewN | apply Kd.R_drew)); exact HO_6.out) hb); replace HB := bl_ hb; (try clear hb); (try clear hb2); (try clear hk); (try clear hi); have q91 : (256 : Int) ≤ ((x6_3.length : Int) : Int) := of_decide_eq_true (by first | (with_reducible assumption) | assumption); obtain ⟨i091, hi091, _, hsz91, _⟩ := info_parts info42; have hroom91 : x6_3.length ≤ co52 := (Kd.R_reads' HO_6.out).2.1; have hC91 : Kd.C k42 _ (some ⟨go52, 0, none⟩) x6_3.length x6_3 := (Kd.R_reads' HO_6.out).2.2; have hcut91 := cut_to (P := Try.prog) 22 42 .i64 Try.underlying22 hi091 (some ⟨go52, 0, none⟩) x6_3.length co52 256 (by omega) q91 hroom91; have hr91 := Kd.C_take (m := 256) hC91 (by omega); have hy91 : y574.length = (256 : Int).toNat := (by rw [Ny574.out, List.length_take]; omega); rw [← Ny574.out] at hr91; rw [← hy91] at hcut91; have HR577 := Aside0.mk hr91; have HC577 := Aside0.mk (show y574.length ≤ co52 from by omega); clear hr91 hC91 hroom91 hi091 hsz91; have KY91 := Aside0.mk hy91; clear hy91; have KL91 := Aside0.mk (show 256 ≤ x6_3.length from by omega); replace q91 := eq_true q91) | (go_at_call 3; (with_reducible refine (lockgatelaw06_FlowTells.calls k3 _ _ y574 3 true _ ?side1 ?side2 (.mk rfl) A76.out).mono ?_); (case side1 => repeat (first | exact (by repeat (first | (with_reducible exact HR577.out) | (with_reducible refine Kd.C_alloc ?_ _) | (with_reducible refine Kd.C_drewN ?_ _) | (with_reducible refine Kd.C_drew ?_) | exact HR577.out)) | (with_reducible refine Kd.C_alloc ?_ _) | (with_reducible refine Kd.C_drewN ?_ _) | (with_reducible refine Kd.C_drew ?_))); (case side2 => exact HC577.out); rintro e w92 ⟨rfl, hb⟩; replace HO_6 := Aside0.mk (Kd.R_below (by (with_reducible repeat (first | apply Kd.R_alloc | apply Kd.R_drewN | apply Kd.R_drew)); exact HO_6.out) hb); replace HR577 := Aside0.mk (Kd.C_below (by repeat (first | (with_reducible exact HR577.out) | (with_reducible refine Kd.C_alloc ?_ _) | (with_reducible refine Kd.C_drewN ?_ _) | (with_reducible refine Kd.C_drew ?_) | exact HR577.out)) hb); replace HB := bl_ hb; (try clear hb); (try clear hb2); (try clear hk); (try clear hi)) | (go_at_call 4; (with_reducible refine (lockgatelaw06_FlowLands.calls k3 _ _ x6_3 true _ ?side1 ?side2 (.mk rfl) A78.out).mono ?_); (case side1 => repeat (first | exact (Kd.R_reads' HO_6.out).2.2 | (with_reducible refine Kd.C_alloc ?_ _) | (with_reducible refine Kd.C_drewN ?_ _) | (with_reducible refine Kd.C_drew ?_))); (case side2 => exact (Kd.R_reads' HO_6.out).2.1); rintro e w93 ⟨rfl, hb⟩; replace HO_6 := Aside0.mk (Kd.R_below (by (with_reducible repeat (first | apply Kd.R_alloc | apply Kd.R_drewN | apply Kd.R_drew)); exact HO_6.out) hb); replace HR577 := Aside0.mk (Kd.C_below (by repeat (first | (with_reducible exact HR577.out) | (with_reducible refine Kd.C_alloc ?_ _) | (with_reducible refine Kd.C_drewN ?_ _) | (with_reducible refine Kd.C_drew ?_) | exact HR577.out)) hb); replace HB := bl_ hb; (try clear hb); (try clear hb2); (try clear hk); (try clear hi); have q94 : (256 : Int) ≤ ((x6_3.length : Int) : Int) := of_decide_eq_true (by first | (with_reducible assumption) | assumption); obtain ⟨i094, hi094, _, hsz94, _⟩ := info_parts info42; have hroom94 : x6_3.length ≤ co52 := (Kd.R_reads' HO_6.out).2.1; have hC94 : Kd.C k42 _ (some ⟨go52, 0, none⟩) x6_3.length x6_3 := (Kd.R_reads' HO_6.out).2.2; have hcut94 := cut_to (P := Try.prog) 22 42 .i64 Try.underlying22 hi094 (some ⟨go52, 0, none⟩) x6_3.length co52 256 (by omega) q94 hroom94; have hr94 := Kd.C_take (m := 256) hC94 (by omega); have hy94 : y574.length = (256 : Int).toNat := (by rw [Ny580.out, List.length_take]; omega); rw [← Ny580.out] at hr94; rw [← hy94] at hcut94; have HR583 := Aside0.mk hr94; have HC583 := Aside0.mk (show y574.length ≤ co52 from by omega); clear hr94 hC94 hroom94 hi094 hsz94; have KY94 := Aside0.mk hy94; clear hy94; have KL94 := Aside0.mk (show 256 ≤ x6_3.length from by omega); replace q94 := eq_true q94) | (go_at_call 5; (with_reducible refine (lockgatelaw06_FlowInside.calls k3 _ _ y574 true _ ?side1 ?side2 (.mk rfl) A81.out).mono ?_); (case side1 => repeat (first | exact (by repeat (first | (with_reducible exact HR577.out) | (with_reducible refine Kd.C_alloc ?_ _) | (with_reducible refine Kd.C_drewN ?_ _) | (with_reducible refine Kd.C_drew ?_) | exact HR577.out)) | (with_reducible refine Kd.C_alloc ?_ _) | (with_reducible refine Kd.C_drewN ?_ _) | (with_reducible refine Kd.C_drew ?_))); (case side2 => exact HC577.out); rintro e w95 ⟨rfl, hb⟩; replace HO_6 := Aside0.mk (Kd.R_below (by (with_reducible repeat (first | apply Kd.R_alloc | apply Kd.R_drewN | apply Kd.R_drew)); exact HO_6.out) hb); replace HR577 := Aside0.mk (Kd.C_below (by repeat (first | (with_reducible exact HR577.out) | (with_reducible refine Kd.C_alloc ?_ _) | (with_reducible refine Kd.C_drewN ?_ _) | (with_reducible refine Kd.C_drew ?_) | exact HR577.out)) hb); replace HR583 := Aside0.mk (Kd.C_below (by repeat (first | (with_reducible exact HR583.out) | (with_reducible refine Kd.C_alloc ?_ _) | (with_reducible refine Kd.C_drewN ?_ _) | (with_reducible refine Kd.C_drew ?_) | exact HR583.out)) hb); replace HB := bl_ hb; (try clear hb); (try clear hb2); (try clear hk); (try clear hi)) | (go_at_call 3; (with_reducible refine (lockgatelaw06_FlowTells.calls k3 _ _ y587 0 true _ ?side1 ?side2 (.mk rfl) A87.out).mono ?_); (case side1 => repeat (first | exact (Kd.R_reads' HO589.out).2.2 | (with_reducible refine Kd.C_alloc ?_ _) | (with_reducible refine Kd.C_drewN ?_ _) | (with_reducible refine Kd.C_drew ?_))); (case side2 => exact (Kd.R_reads' HO589.out).2.1); rintro e w101 ⟨rfl, hb⟩; replace HO_6 := Aside0.mk (Kd.R_below (by (with_reducible repeat (first | apply Kd.R_alloc | apply Kd.R_drewN | apply Kd.R_drew)); exact HO_6.out) hb); replace HO589 := Aside0.mk (Kd.R_below (by (with_reducible repeat (first | apply Kd.R_alloc | apply Kd.R_drewN | apply Kd.R_drew)); exact HO589.out) hb); replace HR577 := Aside0.mk (Kd.C_below (by repeat (first | (with_reducible exact HR577.out) | (with_reducible refine Kd.C_alloc ?_ _) | (with_reducible refine Kd.C_drewN ?_ _) | (with_reducible refine Kd.C_drew ?_) | exact HR577.out)) hb); replace HR583 := Aside0.mk (Kd.C_below (by repeat (first | (with_reducible exact HR583.out) | (with_reducible refine Kd.C_alloc ?_ _) | (with_reducible refine Kd.C_drewN ?_ _) | (with_reducible refine Kd.C_drew ?_) | exact HR583.out)) hb); replace HB := bl_ hb; (try clear hb); (try clear hb2); (try clear hk); (try clear hi)) | (go_at_call 3; (refine (lockgatelaw06_FlowTells.calls k3 _ _ ([] : List (S42)) 0 true _ ?side1 ?side2 (.mk rfl) A83.out).mono ?_); (case side1 => exact Kd.C_nil _ _); (case side2 => exact Nat.le_refl _); rintro e w96 ⟨rfl, hb⟩; replace HO_6 := Aside0.mk (Kd.R_below (by (with_reducible repeat (first | apply Kd.R_alloc | apply Kd.R_drewN | apply Kd.R_drew)); exact HO_6.out) hb); replace HR577 := Aside0.mk (Kd.C_below (by repeat (first | (with_reducible exact HR577.out) | (with_reducible refine Kd.C_alloc ?_ _) | (with_reducible refine Kd.C_drewN ?_ _) | (with_reducible refine Kd.C_drew ?_) | exact HR577.out)) hb); replace HR583 := Aside0.mk (Kd.C_below (by repeat (first | (with_reducible exact HR583.out) | (with_reducible refine Kd.C_alloc ?_ _) | (with_reducible refine Kd.C_drewN ?_ _) | (with_reducible refine Kd.C_drew ?_) | exact HR583.out)) hb); replace HB := bl_ hb; (try clear hb); (try clear hb2); (try clear hk); (try clear hi)) | (go_at_call 4; (refine (lockgatelaw06_FlowLands.calls k3 _ _ ([] : List (S42)) true _ ?side1 ?side2 (.mk rfl) A85.out).mono ?_); (case side1 => exact Kd.C_nil _ _); (case side2 => exact Nat.le_refl _); rintro e w97 ⟨rfl, hb⟩; replace HO_6 := Aside0.mk (Kd.R_below (by (with_reducible repeat (first | apply Kd.R_alloc | apply Kd.R_drewN | apply Kd.R_drew)); exact HO_6.out) hb); replace HR577 := Aside0.mk (Kd.C_below (by repeat (first | (with_reducible exact HR577.out) | (with_reducible refine Kd.C_alloc ?_ _) | (with_reducible refine Kd.C_drewN ?_ _) | (with_reducible refine Kd.C_drew ?_) | exact HR577.out)) hb); replace HR583 := Aside0.mk (Kd.C_below (by repeat (first | (with_reducible exact HR583.out) | (with_reducible refine Kd.C_alloc ?_ _) | (with_reducible refine Kd.C_drewN ?_ _) | (with_reducible refine Kd.C_drew ?_) | exact HR583.out)) hb); replace HB := bl_ hb; (try clear hb); (try clear hb2); (try clear hk); (try clear hi)) | ((with_reducible refine gate_dst (N := 134) rfl ?_); (try (refine gate_guard (by rfl) ?_; dsimp only)); refine Kd.R_lit k42 _ 42 ?hg (N := 134) ?hd (xs := ([(⟨183, 0, 0, 0, 0⟩ : S42)] : List (S42))) (inner := [.int .i64 183, .int .i64 0, .int .i64 0, .int .i64 0, .int .i64 0]) (ok := fun _ => True) (okp := fun _ => True) ?hr ?hp (fun _ hk => hk) trivial (Below.refl _ _) (Nat.le_refl _) (by simp) ?_; (case hd => rfl); (case hg => rfl); (case hr => first | (go_simp; done) | (go_simp; rfl)); (case hp => exact (Reps.c5 (show Kd.M k42 _ _ _ (⟨183, 0, 0, 0, 0⟩ : S42) [.int .i64 183, .int .i64 0, .int .i64 0, .int .i64 0, .int .i64 0] from (k42_mkM _ _ _ (⟨183, 0, 0, 0, 0⟩ : S42) )) (Reps.none _ _))); intro v588 w98 ho99 hb hg_ hnew_; clear hg_ hnew_; (first | rw [← Ny587.out] at ho99 | (simp only [Int.reduceToNat] at ho99; rw [← Ny587.out] at ho99)); have n0_ := Aside0.mk (Kd.R_elder' (by (with_reducible repeat (first | apply Kd.R_alloc | apply Kd.R_drewN | apply Kd.R_drew)); exact HO_6.out) (Kd.R_base ho99) hb); have n1_ := Aside0.mk (Kd.R_lower (Kd.R_new' ho99 (Kd.R_lt (by (with_reducible repeat (first | apply Kd.R_alloc | apply Kd.R_drewN | apply Kd.R_drew)); exact HO_6.out))) (below_size bz_)); have n2_ := Aside0.mk (Kd.C_below (by repeat (first | (with_reducible exact HR577.out) | (with_reducible refine Kd.C_alloc ?_ _) | (with_reducible refine Kd.C_drewN ?_ _) | (with_reducible refine Kd.C_drew ?_) | exact HR577.out)) hb); have n3_ := Aside0.mk (Kd.C_below (by repeat (first | (with_reducible exact HR583.out) | (with_reducible refine Kd.C_alloc ?_ _) | (with_reducible refine Kd.C_drewN ?_ _) | (with_reducible refine Kd.C_drew ?_) | exact HR583.out)) hb); have n4_ := bl_ hb; clear HO_6; clear HR577; clear HR583; clear HB; have HO_6 := n0_; have HO589 := n1_; have HR577 := n2_; have HR583 := n3_; have HB := n4_; clear n0_ n1_ n2_ n3_ n4_; clear hb ho99; obtain ⟨Ao100, co100, eo100⟩ := Kd.R_slice HO589.out; subst eo100) | (go_at_call 9; (with_reducible refine (lockgatelaw06_works.calls k3  t591 _ A89.out).mono ?_); rintro e w102 ⟨rfl, hb⟩; replace HO_6 := Aside0.mk (Kd.R_below (by (with_reducible repeat (first | apply Kd.R_alloc | apply Kd.R_drewN | apply Kd.R_drew)); exact HO_6.out) hb); replace HO589 := Aside0.mk (Kd.R_below (by (with_reducible repeat (first | apply Kd.R_alloc | apply Kd.R_drewN | apply Kd.R_drew)); exact HO589.out) hb); replace HR577 := Aside0.mk (Kd.C_below (by repeat (first | (with_reducible exact HR577.out) | (with_reducible refine Kd.C_alloc ?_ _) | (with_reducible refine Kd.C_drewN ?_ _) | (with_reducible refine Kd.C_drew ?_) | exact HR577.out)) hb); replace HR583 := Aside0.mk (Kd.C_below (by repeat (first | (with_reducible exact HR583.out) | (with_reducible refine Kd.C_alloc ?_ _) | (with_reducible refine Kd.C_drewN ?_ _) | (with_reducible refine Kd.C_drew ?_) | exact HR583.out)) hb); replace HB := bl_ hb; (try clear hb); (try clear hb2); (try clear hk); (try clear hi)))
                   go_ret
                   exact ⟨vv_, bz_⟩
                  ·replace c88 := Bool.eq_false_iff.mpr c88
                   subst c88
                   have H1 : (some false) = some r := by rw [if_neg (show ¬ (false = true) by decide)] at H; exact H
                   clear H
                   have H := H1
                   clear H1
                   exact absurd ((Option.some.inj H).trans HRT.out) (by decide)
                 ·replace c86 := Bool.eq_false_iff.mpr c86
                  subst c86
                  have H1 : (some false) = some r := by rw [if_neg (show ¬ (false = true) by decide)] at H; exact H
                  clear H
                  have H := H1
                  clear H1
                  exact absurd ((Option.some.inj H).trans HRT.out) (by decide)
                ·replace c84 := Bool.eq_false_iff.mpr c84
                 subst c84
                 have H1 : (some false) = some r := by rw [if_neg (show ¬ (false = true) by decide)] at H; exact H
                 clear H
                 have H := H1
                 clear H1
                 exact absurd ((Option.some.inj H).trans HRT.out) (by decide)
               ·replace c82 := Bool.eq_false_iff.mpr c82
                subst c82
                have H1 : (some false) = some r := by rw [if_neg (show ¬ (false = true) by decide)] at H; exact H
                clear H
                have H := H1
                clear H1
                exact absurd ((Option.some.inj H).trans HRT.out) (by decide)
              ·replace c79 := Bool.eq_false_iff.mpr c79
               subst c79
               have H1 : (some false) = some r := by rw [if_neg (show ¬ (false = true) by decide)] at H; exact H
               clear H
               have H := H1
               clear H1
               exact absurd ((Option.some.inj H).trans HRT.out) (by decide)
             ·replace c77 := Bool.eq_false_iff.mpr c77
              subst c77
              have H1 : (some false) = some r := by rw [if_neg (show ¬ (false = true) by decide)] at H; exact H
              clear H
              have H := H1
              clear H1
              exact absurd ((Option.some.inj H).trans HRT.out) (by decide)
            ·rw [if_neg c75] at H
             exact absurd H (by simp)
           ·replace c74 := Bool.eq_false_iff.mpr c74
            subst c74
            have H1 : (some false) = some r := by rw [if_neg (show ¬ (false = true) by decide)] at H; exact H
            clear H
            have H := H1
            clear H1
            exact absurd ((Option.some.inj H).trans HRT.out) (by decide)
       ·rw [if_neg c51] at H
        exact absurd H (by simp)

end Go.Proofs.Ytkcneaaoghgllaa.PA
