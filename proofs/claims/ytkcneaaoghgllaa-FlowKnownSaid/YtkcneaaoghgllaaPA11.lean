-- PRINTED by print.py (a twelfth state) out of the translation. Not trusted: Lean checks it.
import Derived.Test.YtkcneaaoghgllaaPA0
import Derived.Test.YtkcneaaoghgllaaSq
namespace Go.Proofs.Ytkcneaaoghgllaa.PA
open Go.RowKit Go.Proofs.YtkcneaaoghgllaaW.PrintWords Go.Proofs.YtkcneaaoghgllaaW.PrintLast Go.Proofs.YtkcneaaoghgllaaW.PrintMore
attribute [local go_sem] max2_int min2_int max_two min_two max_three min_three max_four min_four   -- for this text's walks alone
set_option linter.unusedVariables false
set_option linter.unusedSimpArgs false

/-! ### lockgateref06_Op: function 42 -/
def lockgateref06_Op.f (a0_0 : Int) (a0_1 : Int) (a0_2 : Int) (a0_3 : Int) (a0_4 : Int) : Option (Int) := if (Int.tmod a0_0 8) = 5 then (some (wrap64 (Int.tdiv a0_0 16))) else (if (Int.tmod a0_0 8) = 6 then (some (wrap64 (Int.tdiv a0_0 16))) else (some (-1)))
set_option maxHeartbeats 8000000 in
set_option maxRecDepth 100000 in
theorem lockgateref06_Op.calls (a0_0 : Int) (a0_1 : Int) (a0_2 : Int) (a0_3 : Int) (a0_4 : Int) (r : Int) (w : World) (h : lockgateref06_Op.f a0_0 a0_1 a0_2 a0_3 a0_4 = some r) :
 Calls Try.prog 42 #[.agg #[.int .i64 a0_0, .int .i64 a0_1, .int .i64 a0_2, .int .i64 a0_3, .int .i64 a0_4]] w fun e w' => e = .returned (.int .i64 r) ∧ Below w.heap.size w w' := by
 have hu42 := Try.underlying42
 have HB := Aside0.mk (Below.refl w.heap.size w)
 have H : (if (Int.tmod a0_0 8) = 5 then (some (wrap64 (Int.tdiv a0_0 16))) else (if (Int.tmod a0_0 8) = 6 then (some (wrap64 (Int.tdiv a0_0 16))) else (some (-1)))) = some r := h
 clear h
 by_cases c2 : (Int.tmod a0_0 8) = 5
 ·rw [if_pos c2] at H
  have c2b0 : ((Int.tmod a0_0 8) == 5) = true := beq_iff_eq.mpr c2
  have c2b1 : ((Int.tmod a0_0 8) != 5) = false := bne_eq_false_iff_eq.mpr c2
  clear c2
  obtain rfl := Option.some.inj H
  go_enter Try.func42, Try.ntmps42
  go_wp2_with (first | ((with_reducible refine gate_dst (N := 1) rfl ?_); refine bx_ 1 #[.int .i64 a0_0, .int .i64 a0_1, .int .i64 a0_2, .int .i64 a0_3, .int .i64 a0_4] 42 ?_; intro gb235 hg w3 BK235 hb; have GW235 := bg_ hg; have GE235 := GW235; replace HB := bl_ hb; clear hb hg; obtain ⟨zc4_0, zc4_1, zc4_2, zc4_3, zc4_4, zf4_0, zf4_1, zf4_2, zf4_3, zf4_4⟩ := k5_ BK235))
  go_ret
  exact ⟨vv_, bz_⟩
 ·rw [if_neg c2] at H
  have c2b0 : ((Int.tmod a0_0 8) == 5) = false := beq_eq_false_iff_ne.mpr c2
  have c2b1 : ((Int.tmod a0_0 8) != 5) = true := bne_iff_ne.mpr c2
  by_cases c5 : (Int.tmod a0_0 8) = 6
  ·rw [if_pos c5] at H
   have c5b0 : ((Int.tmod a0_0 8) == 6) = true := beq_iff_eq.mpr c5
   have c5b1 : ((Int.tmod a0_0 8) != 6) = false := bne_eq_false_iff_eq.mpr c5
   clear c5
   obtain rfl := Option.some.inj H
   go_enter Try.func42, Try.ntmps42
   go_wp2_with (first | ((with_reducible refine gate_dst (N := 1) rfl ?_); refine bx_ 1 #[.int .i64 a0_0, .int .i64 a0_1, .int .i64 a0_2, .int .i64 a0_3, .int .i64 a0_4] 42 ?_; intro gb235 hg w6 BK235 hb; have GW235 := bg_ hg; have GE235 := GW235; replace HB := bl_ hb; clear hb hg; obtain ⟨zc7_0, zc7_1, zc7_2, zc7_3, zc7_4, zf7_0, zf7_1, zf7_2, zf7_3, zf7_4⟩ := k5_ BK235))
   go_ret
   exact ⟨vv_, bz_⟩
  ·rw [if_neg c5] at H
   have c5b0 : ((Int.tmod a0_0 8) == 6) = false := beq_eq_false_iff_ne.mpr c5
   have c5b1 : ((Int.tmod a0_0 8) != 6) = true := bne_iff_ne.mpr c5
   obtain rfl := Option.some.inj H
   go_enter Try.func42, Try.ntmps42
   go_wp2_with (first | ((with_reducible refine gate_dst (N := 1) rfl ?_); refine bx_ 1 #[.int .i64 a0_0, .int .i64 a0_1, .int .i64 a0_2, .int .i64 a0_3, .int .i64 a0_4] 42 ?_; intro gb235 hg w8 BK235 hb; have GW235 := bg_ hg; have GE235 := GW235; replace HB := bl_ hb; clear hb hg; obtain ⟨zc9_0, zc9_1, zc9_2, zc9_3, zc9_4, zf9_0, zf9_1, zf9_2, zf9_3, zf9_4⟩ := k5_ BK235))
   go_ret
   exact ⟨vv_, bz_⟩

/-! ### lockgateref06_Jumps: function 34 -/
def lockgateref06_Jumps.f (a0_0 : Int) (a0_1 : Int) (a0_2 : Int) (a0_3 : Int) (a0_4 : Int) : Option (Bool) := (lockgateref06_Op.f a0_0 a0_1 a0_2 a0_3 a0_4).bind fun t237 => (if t237 ≥ 0 then (if t237 = 8 then (some false) else (some (t237 != 9))) else (some false))
set_option maxHeartbeats 8000000 in
set_option maxRecDepth 100000 in
theorem lockgateref06_Jumps.calls (a0_0 : Int) (a0_1 : Int) (a0_2 : Int) (a0_3 : Int) (a0_4 : Int) (r : Bool) (w : World) (h : lockgateref06_Jumps.f a0_0 a0_1 a0_2 a0_3 a0_4 = some r) :
 Calls Try.prog 34 #[.agg #[.int .i64 a0_0, .int .i64 a0_1, .int .i64 a0_2, .int .i64 a0_3, .int .i64 a0_4]] w fun e w' => e = .returned (.bool r) ∧ Below w.heap.size w w' := by
 have hu42 := Try.underlying42
 have HB := Aside0.mk (Below.refl w.heap.size w)
 have H : ((lockgateref06_Op.f a0_0 a0_1 a0_2 a0_3 a0_4).bind fun t237 => (if t237 ≥ 0 then (if t237 = 8 then (some false) else (some (t237 != 9))) else (some false))) = some r := h
 clear h
 replace H := Option.bind_eq_some_iff.mp H
 obtain ⟨t237, A20, H⟩ := H
 replace H : (if t237 ≥ 0 then (if t237 = 8 then (some false) else (some (t237 != 9))) else (some false)) = some r := H
 have A2 := Aside0.mk A20
 clear A20
 by_cases c3 : t237 ≥ 0
 ·rw [if_pos c3] at H
  have c3b0 : decide (0 ≤ t237) = true := decide_eq_true c3
  clear c3
  by_cases c4 : t237 = 8
  ·rw [if_pos c4] at H
   have c4b0 : (t237 == 8) = true := beq_iff_eq.mpr c4
   have c4b1 : (t237 != 8) = false := bne_eq_false_iff_eq.mpr c4
   clear c4
   obtain rfl := Option.some.inj H
   go_enter Try.func34, Try.ntmps34
   go_wp2_with (first | ((with_reducible refine gate_dst (N := 1) rfl ?_); refine bx_ 1 #[.int .i64 a0_0, .int .i64 a0_1, .int .i64 a0_2, .int .i64 a0_3, .int .i64 a0_4] 42 ?_; intro gb236 hg w5 BK236 hb; have GW236 := bg_ hg; have GE236 := GW236; replace HB := bl_ hb; clear hb hg; obtain ⟨zc6_0, zc6_1, zc6_2, zc6_3, zc6_4, zf6_0, zf6_1, zf6_2, zf6_3, zf6_4⟩ := k5_ BK236) | ((with_reducible refine gate_callee (f := 42) rfl ?_); refine gM_ 5 Try.func42 (lockgateref06_Op.calls a0_0 a0_1 a0_2 a0_3 a0_4 t237 _ A2.out) ?_; intro w7 hb; replace BK236 := bb_ hb BK236; replace HB := bl_ hb; (try clear hb); (try clear hb2); (try clear hk); (try clear hi)))
   go_ret
   exact ⟨vv_, bz_⟩
  ·rw [if_neg c4] at H
   have c4b0 : (t237 == 8) = false := beq_eq_false_iff_ne.mpr c4
   have c4b1 : (t237 != 8) = true := bne_iff_ne.mpr c4
   obtain rfl := Option.some.inj H
   go_enter Try.func34, Try.ntmps34
   go_wp2_with (first | ((with_reducible refine gate_dst (N := 1) rfl ?_); refine bx_ 1 #[.int .i64 a0_0, .int .i64 a0_1, .int .i64 a0_2, .int .i64 a0_3, .int .i64 a0_4] 42 ?_; intro gb236 hg w8 BK236 hb; have GW236 := bg_ hg; have GE236 := GW236; replace HB := bl_ hb; clear hb hg; obtain ⟨zc9_0, zc9_1, zc9_2, zc9_3, zc9_4, zf9_0, zf9_1, zf9_2, zf9_3, zf9_4⟩ := k5_ BK236) | ((with_reducible refine gate_callee (f := 42) rfl ?_); refine gM_ 5 Try.func42 (lockgateref06_Op.calls a0_0 a0_1 a0_2 a0_3 a0_4 t237 _ A2.out) ?_; intro w10 hb; replace BK236 := bb_ hb BK236; replace HB := bl_ hb; (try clear hb); (try clear hb2); (try clear hk); (try clear hi)))
   go_ret
   exact ⟨vv_, bz_⟩
 ·rw [if_neg c3] at H
  have c3b0 : decide (0 ≤ t237) = false := decide_eq_false c3
  clear c3
  obtain rfl := Option.some.inj H
  go_enter Try.func34, Try.ntmps34
  go_wp2_with (first | ((with_reducible refine gate_dst (N := 1) rfl ?_); refine bx_ 1 #[.int .i64 a0_0, .int .i64 a0_1, .int .i64 a0_2, .int .i64 a0_3, .int .i64 a0_4] 42 ?_; intro gb236 hg w11 BK236 hb; have GW236 := bg_ hg; have GE236 := GW236; replace HB := bl_ hb; clear hb hg; obtain ⟨zc12_0, zc12_1, zc12_2, zc12_3, zc12_4, zf12_0, zf12_1, zf12_2, zf12_3, zf12_4⟩ := k5_ BK236) | ((with_reducible refine gate_callee (f := 42) rfl ?_); refine gM_ 5 Try.func42 (lockgateref06_Op.calls a0_0 a0_1 a0_2 a0_3 a0_4 t237 _ A2.out) ?_; intro w13 hb; replace BK236 := bb_ hb BK236; replace HB := bl_ hb; (try clear hb); (try clear hb2); (try clear hk); (try clear hi)))
  go_ret
  exact ⟨vv_, bz_⟩

/-! ### lockgateref02_Size: function 44 -/
def lockgateref02_Size.f (a0_0 : Int) (a0_1 : Int) (a0_2 : Int) (a0_3 : Int) (a0_4 : Int) : Option (Int) := if a0_0 = 24 then (some 2) else (some 1)
set_option maxHeartbeats 8000000 in
set_option maxRecDepth 100000 in
theorem lockgateref02_Size.calls (a0_0 : Int) (a0_1 : Int) (a0_2 : Int) (a0_3 : Int) (a0_4 : Int) (r : Int) (w : World) (h : lockgateref02_Size.f a0_0 a0_1 a0_2 a0_3 a0_4 = some r) :
 Calls Try.prog 44 #[.agg #[.int .i64 a0_0, .int .i64 a0_1, .int .i64 a0_2, .int .i64 a0_3, .int .i64 a0_4]] w fun e w' => e = .returned (.int .i64 r) ∧ Below w.heap.size w w' := by
 have hu42 := Try.underlying42
 have HB := Aside0.mk (Below.refl w.heap.size w)
 have H : (if a0_0 = 24 then (some 2) else (some 1)) = some r := h
 clear h
 by_cases c2 : a0_0 = 24
 ·rw [if_pos c2] at H
  have c2b0 : (a0_0 == 24) = true := beq_iff_eq.mpr c2
  have c2b1 : (a0_0 != 24) = false := bne_eq_false_iff_eq.mpr c2
  clear c2
  obtain rfl := Option.some.inj H
  go_enter Try.func44, Try.ntmps44
  go_wp2_with (first | ((with_reducible refine gate_dst (N := 1) rfl ?_); refine bx_ 1 #[.int .i64 a0_0, .int .i64 a0_1, .int .i64 a0_2, .int .i64 a0_3, .int .i64 a0_4] 42 ?_; intro gb238 hg w3 BK238 hb; have GW238 := bg_ hg; have GE238 := GW238; replace HB := bl_ hb; clear hb hg; obtain ⟨zc4_0, zc4_1, zc4_2, zc4_3, zc4_4, zf4_0, zf4_1, zf4_2, zf4_3, zf4_4⟩ := k5_ BK238))
  go_ret
  exact ⟨vv_, bz_⟩
 ·rw [if_neg c2] at H
  have c2b0 : (a0_0 == 24) = false := beq_eq_false_iff_ne.mpr c2
  have c2b1 : (a0_0 != 24) = true := bne_iff_ne.mpr c2
  obtain rfl := Option.some.inj H
  go_enter Try.func44, Try.ntmps44
  go_wp2_with (first | ((with_reducible refine gate_dst (N := 1) rfl ?_); refine bx_ 1 #[.int .i64 a0_0, .int .i64 a0_1, .int .i64 a0_2, .int .i64 a0_3, .int .i64 a0_4] 42 ?_; intro gb238 hg w5 BK238 hb; have GW238 := bg_ hg; have GE238 := GW238; replace HB := bl_ hb; clear hb hg; obtain ⟨zc6_0, zc6_1, zc6_2, zc6_3, zc6_4, zf6_0, zf6_1, zf6_2, zf6_3, zf6_4⟩ := k5_ BK238))
  go_ret
  exact ⟨vv_, bz_⟩

/-! ### lockgateref06_Slot: function 43 -/
def lockgateref06_Slot.l0 : Nat → List (S42) → Int → Int → Int → Option (Int)
 | 0, _, _, _, _ => none
 | k + 1, x0, x1, x5, x6 => if x6 < x1 then (if 0 ≤ x6 then (if x6 < (x0.length : Int) then ((lockgateref02_Size.f ((rd_T42 x0 x6).f0) ((rd_T42 x0 x6).f1) ((rd_T42 x0 x6).f2) ((rd_T42 x0 x6).f3) ((rd_T42 x0 x6).f4)).bind fun t240 => (lockgateref06_Slot.l0 k x0 x1 (wrap64 (x5 + t240)) (wrap64 (x6 + 1)))) else (none)) else (none)) else (some x5)
def lockgateref06_Slot.f (k : Nat) (l0 : List (S42)) (a1 : Int) : Option (Int) := lockgateref06_Slot.l0 k l0 a1 0 0
theorem lockgateref06_Slot.mono_l : ∀ k, (∀ y0 y1 y2 y3, LeO (lockgateref06_Slot.l0 k y0 y1 y2 y3) (lockgateref06_Slot.l0 (k + 1) y0 y1 y2 y3))
 | 0 => fun _ _ _ _ r h => by simp [lockgateref06_Slot.l0] at h
 | k + 1 => by
  have ih0 := lockgateref06_Slot.mono_l k
  ·intro y0 y1 y2 y3
   unfold lockgateref06_Slot.l0
   repeat' first
   | (with_reducible exact ih0 _ _ _ _)
   | (with_reducible exact LeO.refl _)
   | (with_reducible exact LeO.none _)
   | (with_reducible refine LeO.ite ?_ ?_)
   | (with_reducible refine LeO.bind ?_ (fun _ => ?_))
   | exact ih0 _ _ _ _
   | exact LeO.none _
   | refine LeO.ite ?_ ?_
   | refine LeO.bind ?_ (fun _ => ?_)
theorem lockgateref06_Slot.mono : ∀ a0 a1 k, LeO (lockgateref06_Slot.f k a0 a1) (lockgateref06_Slot.f (k + 1) a0 a1) := by
 intro a0 a1 k
 have ih0 := lockgateref06_Slot.mono_l k
 unfold lockgateref06_Slot.f
 repeat' first
  | (with_reducible exact ih0 _ _ _ _)
  | (with_reducible exact LeO.refl _)
  | (with_reducible exact LeO.none _)
  | (with_reducible refine LeO.ite ?_ ?_)
  | (with_reducible refine LeO.bind ?_ (fun _ => ?_))
  | exact ih0 _ _ _ _
  | exact LeO.none _
  | refine LeO.ite ?_ ?_
  | refine LeO.bind ?_ (fun _ => ?_)
set_option maxHeartbeats 8000000 in
set_option maxRecDepth 100000 in
theorem lockgateref06_Slot.calls (k : Nat) (A0 : Option Addr) (c0 : Nat) (l0 : List (S42)) (a1 : Int) (r : Int) (w : World) (hr0 : Kd.C k42 w A0 l0.length l0) (hc0 : l0.length ≤ c0) (h : lockgateref06_Slot.f k l0 a1 = some r) :
 Calls Try.prog 43 #[.slice A0 l0.length c0, .int .i64 a1] w fun e w' => e = .returned (.int .i64 r) ∧ Below w.heap.size w w' := by
 have hu42 := Try.underlying42
 have HR0 := Aside0.mk hr0
 have HC0 := Aside0.mk hc0
 clear hr0 hc0
 have HB := Aside0.mk (Below.refl w.heap.size w)
 have H : (lockgateref06_Slot.l0 k l0 a1 0 0) = some r := h
 clear h
 have H' := Aside0.mk H
 clear H
 go_enter Try.func43, Try.ntmps43
 go_wp2
 go_loopg [5, 6] k (fun kq v5 v6 w' => ∃ (x5_1 : Int) (x6_1 : Int), v5 = .int .i64 x5_1 ∧ v6 = .int .i64 x6_1 ∧ Aside0 (lockgateref06_Slot.l0 kq l0 a1 x5_1 x6_1 = some r) ∧ Aside0 (kq ≤ k) ∧ Aside0 (Below w.heap.size w w'))
 case atStart => exact ⟨(0), (0), (by first | rfl | (simp; done) | (simp [*]; done)), (by first | rfl | (simp; done) | (simp [*]; done)), H', ⟨Nat.le_refl _⟩, ⟨bz_⟩⟩
 case round =>
  clear H'
  try clear p2
  obtain ⟨x5_1, x6_1, rfl, rfl, HA, HK1, HB⟩ := hrel
  cases gk with
  | zero => exact absurd HA.out (by simp [lockgateref06_Slot.l0])
  | succ k1 =>
   have H := HA.out
   clear HA
   simp only [lockgateref06_Slot.l0] at H
   by_cases c3 : x6_1 < a1
   ·rw [if_pos c3] at H
    have c3b0 : decide (x6_1 < a1) = true := decide_eq_true c3
    clear c3
    by_cases c4 : 0 ≤ x6_1
    ·rw [if_pos c4] at H
     have c4b0 : decide (0 ≤ x6_1) = true := decide_eq_true c4
     clear c4
     by_cases c5 : x6_1 < (l0.length : Int)
     ·rw [if_pos c5] at H
      have c5b0 : decide (x6_1 < (l0.length : Int)) = true := decide_eq_true c5
      clear c5
      replace H := Option.bind_eq_some_iff.mp H
      obtain ⟨t240, A60, H⟩ := H
      replace H : (lockgateref06_Slot.l0 k1 l0 a1 (wrap64 (x5_1 + t240)) (wrap64 (x6_1 + 1))) = some r := H
      have A6 := Aside0.mk A60
      clear A60
      have H' := Aside0.mk H
      clear H
      have p239 : 0 ≤ (x6_1 : Int) := of_decide_eq_true (by first | (with_reducible assumption) | assumption)
      have q239 : x6_1 < (l0.length : Int) := of_decide_eq_true (by first | (with_reducible assumption) | assumption)
      obtain ⟨ad239, e239, hx239_0, hx239_1, hx239_2, hx239_3, hx239_4⟩ := at_T42 HR0.out x6_1 p239 q239
      cases e239
      replace hx239_0 := (HB.out.cell (World.block_lt_of_cell? w _ hx239_0)).trans hx239_0
      replace hx239_1 := (HB.out.cell (World.block_lt_of_cell? w _ hx239_1)).trans hx239_1
      replace hx239_2 := (HB.out.cell (World.block_lt_of_cell? w _ hx239_2)).trans hx239_2
      replace hx239_3 := (HB.out.cell (World.block_lt_of_cell? w _ hx239_3)).trans hx239_3
      replace hx239_4 := (HB.out.cell (World.block_lt_of_cell? w _ hx239_4)).trans hx239_4
      replace p239 := eq_true p239
      replace q239 := eq_true q239
      go_wp2_with (first | ((with_reducible refine gate_callee (f := 44) rfl ?_); refine gM_ 17 Try.func44 (lockgateref02_Size.calls ((rd_T42 l0 x6_1).f0) ((rd_T42 l0 x6_1).f1) ((rd_T42 l0 x6_1).f2) ((rd_T42 l0 x6_1).f3) ((rd_T42 l0 x6_1).f4) t240 _ A6.out) ?_; intro w7 hb; replace HB := bl_ hb; (try clear hb); (try clear hb2); (try clear hk); (try clear hi)))
      go_roundg k1
      case measure => have := HK1.out; omega
      case rel => exact ⟨(wrap64 (x5_1 + t240)), (wrap64 (x6_1 + 1)), (by first | rfl | (simp; done) | (simp [*]; done)), (by first | rfl | (simp; done) | (simp [*]; done)), H', ⟨by have := HK1.out; omega⟩, ⟨bz_⟩⟩
     ·rw [if_neg c5] at H
      exact absurd H (by simp)
    ·rw [if_neg c4] at H
     exact absurd H (by simp)
   ·rw [if_neg c3] at H
    have c3b0 : decide (x6_1 < a1) = false := decide_eq_false c3
    clear c3
    obtain rfl := Option.some.inj H
    go_wp2
    go_ret
    exact ⟨vv_, bz_⟩

end Go.Proofs.Ytkcneaaoghgllaa.PA
