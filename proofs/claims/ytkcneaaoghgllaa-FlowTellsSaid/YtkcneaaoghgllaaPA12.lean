-- PRINTED by print.py (a twelfth state) out of the translation. Not trusted: Lean checks it.
import Derived.Test.YtkcneaaoghgllaaWTab
import Derived.Test.YtkcneaaoghgllaaPA0
import Derived.Test.YtkcneaaoghgllaaSq
import Derived.Test.YtkcneaaoghgllaaPA11
namespace Go.Proofs.Ytkcneaaoghgllaa.PA
open Go.RowKit Go.Proofs.YtkcneaaoghgllaaW.PrintWords Go.Proofs.YtkcneaaoghgllaaW.PrintLast Go.Proofs.YtkcneaaoghgllaaW.PrintMore
attribute [local go_sem] max2_int min2_int max_two min_two max_three min_three max_four min_four   -- for this text's walks alone
set_option linter.unusedVariables false
set_option linter.unusedSimpArgs false

/-! ### lockgateref06_Target: function 35 -/
def lockgateref06_Target.l0 : Nat → List (S42) → Int → Int → Option (Int)
 | 0, _, _, _ => none
 | k + 1, x0, x5, x6 => if x6 < (x0.length : Int) then ((lockgateref06_Slot.f k x0 x6).bind fun t245 => (if t245 = x5 then (some x6) else (lockgateref06_Target.l0 k x0 x5 (wrap64 (x6 + 1))))) else (some (-1))
def lockgateref06_Target.f (k : Nat) (l0 : List (S42)) (a1 : Int) : Option (Int) := (lockgateref06_Slot.f k l0 a1).bind fun t241 => (if 0 ≤ a1 then (if a1 < (l0.length : Int) then ((lockgateref02_Size.f ((rd_T42 l0 a1).f0) ((rd_T42 l0 a1).f1) ((rd_T42 l0 a1).f2) ((rd_T42 l0 a1).f3) ((rd_T42 l0 a1).f4)).bind fun t243 => (lockgateref06_Target.l0 k l0 (wrap64 ((wrap64 (t241 + t243)) + ((rd_T42 l0 a1).f3))) 0)) else (none)) else (none))
theorem lockgateref06_Target.mono_l : ∀ k, (∀ y0 y1 y2, LeO (lockgateref06_Target.l0 k y0 y1 y2) (lockgateref06_Target.l0 (k + 1) y0 y1 y2))
 | 0 => fun _ _ _ r h => by simp [lockgateref06_Target.l0] at h
 | k + 1 => by
  have ih0 := lockgateref06_Target.mono_l k
  ·intro y0 y1 y2
   unfold lockgateref06_Target.l0
   repeat' first
   | (with_reducible exact ih0 _ _ _)
   | (with_reducible exact lockgateref06_Slot.mono _ _ _)
   | (with_reducible exact LeO.refl _)
   | (with_reducible exact LeO.none _)
   | (with_reducible refine LeO.ite ?_ ?_)
   | (with_reducible refine LeO.bind ?_ (fun _ => ?_))
   | exact ih0 _ _ _
   | exact lockgateref06_Slot.mono _ _ _
   | exact LeO.none _
   | refine LeO.ite ?_ ?_
   | refine LeO.bind ?_ (fun _ => ?_)
theorem lockgateref06_Target.mono : ∀ a0 a1 k, LeO (lockgateref06_Target.f k a0 a1) (lockgateref06_Target.f (k + 1) a0 a1) := by
 intro a0 a1 k
 have ih0 := lockgateref06_Target.mono_l k
 unfold lockgateref06_Target.f
 repeat' first
  | (with_reducible exact ih0 _ _ _)
  | (with_reducible exact lockgateref06_Slot.mono _ _ _)
  | (with_reducible exact LeO.refl _)
  | (with_reducible exact LeO.none _)
  | (with_reducible refine LeO.ite ?_ ?_)
  | (with_reducible refine LeO.bind ?_ (fun _ => ?_))
  | exact ih0 _ _ _
  | exact lockgateref06_Slot.mono _ _ _
  | exact LeO.none _
  | refine LeO.ite ?_ ?_
  | refine LeO.bind ?_ (fun _ => ?_)
def lockgateref06_Target.T1 : Bool × List (List Nat × List Nat) := (true, [([], []), ([], []), ([0, 1], [0, 1]), ([], []), ([], []), ([3, 4], [3, 4]), ([5], [5]), ([6, 2], [6]), ([2, 7], [2, 7]), ([], []), ([], []), ([9, 10], [9, 10]), ([11], [11]), ([12], [12]), ([8, 13], [8, 13]), ([14, 7, 0, 1, 2, 3, 4, 5, 6, 7, 8, 9, 10, 11, 12, 13, 14], [14])])
def lockgateref06_Target.B1 : List Nat := [0, 0, 3, 0, 0, 24, 56, 127, 255, 0, 0, 1536, 3584, 7680, 16383, 32767]
theorem lockgateref06_Target.tab1 : rtab .any (opsOf Try.f35 1) = lockgateref06_Target.T1 := by kernel_rfl
theorem lockgateref06_Target.bits1 : waitsOk lockgateref06_Target.T1.2 lockgateref06_Target.B1 = true := by kernel_rfl
set_option maxHeartbeats 8000000 in
set_option maxRecDepth 100000 in
theorem lockgateref06_Target.calls (k : Nat) (A0 : Option Addr) (c0 : Nat) (l0 : List (S42)) (a1 : Int) (r : Int) (w : World) (hr0 : Kd.C k42 w A0 l0.length l0) (hc0 : l0.length ≤ c0) (h : lockgateref06_Target.f k l0 a1 = some r) :
 Calls Try.prog 35 #[.slice A0 l0.length c0, .int .i64 a1] w fun e w' => e = .returned (.int .i64 r) ∧ Below w.heap.size w w' := by
 have hu42 := Try.underlying42
 have HR0 := Aside0.mk hr0
 have HC0 := Aside0.mk hc0
 clear hr0 hc0
 have HB := Aside0.mk (Below.refl w.heap.size w)
 have H : ((lockgateref06_Slot.f k l0 a1).bind fun t241 => (if 0 ≤ a1 then (if a1 < (l0.length : Int) then ((lockgateref02_Size.f ((rd_T42 l0 a1).f0) ((rd_T42 l0 a1).f1) ((rd_T42 l0 a1).f2) ((rd_T42 l0 a1).f3) ((rd_T42 l0 a1).f4)).bind fun t243 => (lockgateref06_Target.l0 k l0 (wrap64 ((wrap64 (t241 + t243)) + ((rd_T42 l0 a1).f3))) 0)) else (none)) else (none))) = some r := h
 clear h
 replace H := Option.bind_eq_some_iff.mp H
 obtain ⟨t241, A30, H⟩ := H
 replace H : (if 0 ≤ a1 then (if a1 < (l0.length : Int) then ((lockgateref02_Size.f ((rd_T42 l0 a1).f0) ((rd_T42 l0 a1).f1) ((rd_T42 l0 a1).f2) ((rd_T42 l0 a1).f3) ((rd_T42 l0 a1).f4)).bind fun t243 => (lockgateref06_Target.l0 k l0 (wrap64 ((wrap64 (t241 + t243)) + ((rd_T42 l0 a1).f3))) 0)) else (none)) else (none)) = some r := H
 have A3 := Aside0.mk A30
 clear A30
 by_cases c4 : 0 ≤ a1
 ·rw [if_pos c4] at H
  have c4b0 : decide (0 ≤ a1) = true := decide_eq_true c4
  clear c4
  by_cases c5 : a1 < (l0.length : Int)
  ·rw [if_pos c5] at H
   have c5b0 : decide (a1 < (l0.length : Int)) = true := decide_eq_true c5
   clear c5
   replace H := Option.bind_eq_some_iff.mp H
   obtain ⟨t243, A60, H⟩ := H
   replace H : (lockgateref06_Target.l0 k l0 (wrap64 ((wrap64 (t241 + t243)) + ((rd_T42 l0 a1).f3))) 0) = some r := H
   have A6 := Aside0.mk A60
   clear A60
   have H' := Aside0.mk H
   clear H
   go_enter Try.func35, Try.ntmps35
   try go_wp2
   replace HB := Aside0.mk (below_drew1 HB.out)
   have p242 : 0 ≤ (a1 : Int) := of_decide_eq_true (by first | (with_reducible assumption) | assumption)
   have q242 : a1 < (l0.length : Int) := of_decide_eq_true (by first | (with_reducible assumption) | assumption)
   obtain ⟨ad242, e242, hx242_0, hx242_1, hx242_2, hx242_3, hx242_4⟩ := at_T42 HR0.out a1 p242 q242
   have hw242_4 := hx242_4
   have hw242_3 := hx242_3
   have hw242_2 := hx242_2
   have hw242_1 := hx242_1
   have hw242_0 := hx242_0
   cases e242
   replace hx242_0 := (HB.out.cell (World.block_lt_of_cell? w _ hx242_0)).trans hx242_0
   replace hx242_1 := (HB.out.cell (World.block_lt_of_cell? w _ hx242_1)).trans hx242_1
   replace hx242_2 := (HB.out.cell (World.block_lt_of_cell? w _ hx242_2)).trans hx242_2
   replace hx242_3 := (HB.out.cell (World.block_lt_of_cell? w _ hx242_3)).trans hx242_3
   replace hx242_4 := (HB.out.cell (World.block_lt_of_cell? w _ hx242_4)).trans hx242_4
   replace p242 := eq_true p242
   replace q242 := eq_true q242
   have p244 : 0 ≤ (a1 : Int) := of_decide_eq_true (by first | (with_reducible assumption) | assumption)
   have q244 : a1 < (l0.length : Int) := of_decide_eq_true (by first | (with_reducible assumption) | assumption)
   obtain ⟨ad244, e244, hx244_0, hx244_1, hx244_2, hx244_3, hx244_4⟩ := at_T42 HR0.out a1 p244 q244
   have hw244_4 := hx244_4
   have hw244_3 := hx244_3
   have hw244_2 := hx244_2
   have hw244_1 := hx244_1
   have hw244_0 := hx244_0
   obtain rfl : ad242 = ad244 := (by injection e244)
   replace hx244_0 := (HB.out.cell (World.block_lt_of_cell? w _ hx244_0)).trans hx244_0
   replace hx244_1 := (HB.out.cell (World.block_lt_of_cell? w _ hx244_1)).trans hx244_1
   replace hx244_2 := (HB.out.cell (World.block_lt_of_cell? w _ hx244_2)).trans hx244_2
   replace hx244_3 := (HB.out.cell (World.block_lt_of_cell? w _ hx244_3)).trans hx244_3
   replace hx244_4 := (HB.out.cell (World.block_lt_of_cell? w _ hx244_4)).trans hx244_4
   replace p244 := eq_true p244
   replace q244 := eq_true q244
   refine start_ (n := 16) (S := fun w' => w'.cell? (ad242.add ((a1).toNat * 5)) = some (.int .i64 ((rd_T42 l0 a1).f0)) ∧ w'.cell? ⟨(ad242.add ((a1).toNat * 5)).block, (ad242.add ((a1).toNat * 5)).off + 1, none⟩ = some (.int .i64 ((rd_T42 l0 a1).f1)) ∧ w'.cell? ⟨(ad242.add ((a1).toNat * 5)).block, (ad242.add ((a1).toNat * 5)).off + 2, none⟩ = some (.int .i64 ((rd_T42 l0 a1).f2)) ∧ w'.cell? ⟨(ad242.add ((a1).toNat * 5)).block, (ad242.add ((a1).toNat * 5)).off + 3, none⟩ = some (.int .i64 ((rd_T42 l0 a1).f3)) ∧ w'.cell? ⟨(ad242.add ((a1).toNat * 5)).block, (ad242.add ((a1).toNat * 5)).off + 4, none⟩ = some (.int .i64 ((rd_T42 l0 a1).f4)) ∧ w'.cell? (ad242.add ((a1).toNat * 5)) = some (.int .i64 ((rd_T42 l0 a1).f0)) ∧ w'.cell? ⟨(ad242.add ((a1).toNat * 5)).block, (ad242.add ((a1).toNat * 5)).off + 1, none⟩ = some (.int .i64 ((rd_T42 l0 a1).f1)) ∧ w'.cell? ⟨(ad242.add ((a1).toNat * 5)).block, (ad242.add ((a1).toNat * 5)).off + 2, none⟩ = some (.int .i64 ((rd_T42 l0 a1).f2)) ∧ w'.cell? ⟨(ad242.add ((a1).toNat * 5)).block, (ad242.add ((a1).toNat * 5)).off + 3, none⟩ = some (.int .i64 ((rd_T42 l0 a1).f3)) ∧ w'.cell? ⟨(ad242.add ((a1).toNat * 5)).block, (ad242.add ((a1).toNat * 5)).off + 4, none⟩ = some (.int .i64 ((rd_T42 l0 a1).f4))) (ds := []) #[n_,n_,n_,n_,n_,n_,n_,n_,n_,n_,n_,n_,n_,n_,n_,n_] (by kernel_rfl) rfl rfl ⟨((HB.out.cell (World.block_lt_of_cell? w _ hw242_0)).trans hw242_0), ((HB.out.cell (World.block_lt_of_cell? w _ hw242_1)).trans hw242_1), ((HB.out.cell (World.block_lt_of_cell? w _ hw242_2)).trans hw242_2), ((HB.out.cell (World.block_lt_of_cell? w _ hw242_3)).trans hw242_3), ((HB.out.cell (World.block_lt_of_cell? w _ hw242_4)).trans hw242_4), ((HB.out.cell (World.block_lt_of_cell? w _ hw244_0)).trans hw244_0), ((HB.out.cell (World.block_lt_of_cell? w _ hw244_1)).trans hw244_1), ((HB.out.cell (World.block_lt_of_cell? w _ hw244_2)).trans hw244_2), ((HB.out.cell (World.block_lt_of_cell? w _ hw244_3)).trans hw244_3), ((HB.out.cell (World.block_lt_of_cell? w _ hw244_4)).trans hw244_4)⟩ (fun hHeld => ?_); refine with_tabW lockgateref06_Target.tab1 lockgateref06_Target.bits1 (fun HT_ HW_ => ?_)
   generalize w.drew = w7 at HB hx242_0 hx242_1 hx242_2 hx242_3 hx242_4 hx244_0 hx244_1 hx244_2 hx244_3 hx244_4 hHeld ⊢
   refine pq_ 0 7 #[y_,n_,n_,n_,n_,n_,n_,n_,n_,n_,n_,n_,n_,n_,n_,n_] ?_
   refine pq_ 1 8 #[y_,y_,n_,n_,n_,n_,n_,n_,n_,n_,n_,n_,n_,n_,n_,n_] ?_
   refine pq_ 3 10 #[y_,y_,n_,y_,n_,n_,n_,n_,n_,n_,n_,n_,n_,n_,n_,n_] ?_
   refine pq_ 4 11 #[y_,y_,n_,y_,y_,n_,n_,n_,n_,n_,n_,n_,n_,n_,n_,n_] ?_
   refine pq_ 5 12 #[y_,y_,n_,y_,y_,y_,n_,n_,n_,n_,n_,n_,n_,n_,n_,n_] ?_
   refine pq_ 9 16 #[y_,y_,n_,y_,y_,y_,n_,n_,n_,y_,n_,n_,n_,n_,n_,n_] ?_
   refine pq_ 10 17 #[y_,y_,n_,y_,y_,y_,n_,n_,n_,y_,y_,n_,n_,n_,n_,n_] ?_
   refine pq_ 11 18 #[y_,y_,n_,y_,y_,y_,n_,n_,n_,y_,y_,y_,n_,n_,n_,n_] ?_
   refine pq_ 12 19 #[y_,y_,n_,y_,y_,y_,n_,n_,n_,y_,y_,y_,y_,n_,n_,n_] ?_
   refine tq0_ 6 13 #[y_,y_,n_,y_,y_,y_,y_,n_,n_,y_,y_,y_,y_,n_,n_,n_] hHeld ?_
   refine tq0_ 13 20 #[y_,y_,n_,y_,y_,y_,y_,n_,n_,y_,y_,y_,y_,y_,n_,n_] hHeld ?_
   refine one_ (i := 2) (N := some 9) #[y_,y_,y_,y_,y_,y_,y_,n_,n_,y_,y_,y_,y_,y_,n_,n_] rfl rfl (one_of HT_.out (by kernel_rfl)) (by decide) (fun K hK => ?_)
   refine goes_ Try.func43 (by kernel_rfl) rfl #[.slice (some ad242) l0.length c0, .int .i64 a1] (by rfl) rfl rfl mp_ ?_
   with_reducible refine (lockgateref06_Slot.calls k _ _ l0 a1 t241 _ ?side1 ?side2 A3.out).mono ?_
   (case side1 => repeat (first | exact (Kd.C_below HR0.out HB.out) | (with_reducible refine Kd.C_alloc ?_ _) | (with_reducible refine Kd.C_drewN ?_ _) | (with_reducible refine Kd.C_drew ?_)))
   (case side2 => exact HC0.out)
   rintro e w8 ⟨rfl, hb⟩
   refine ⟨_, rfl, ?_⟩
   replace HB := bl_ hb
   try clear hb
   refine hK.out _ _ ⟨((HB.out.cell (World.block_lt_of_cell? w _ hw242_0)).trans hw242_0), ((HB.out.cell (World.block_lt_of_cell? w _ hw242_1)).trans hw242_1), ((HB.out.cell (World.block_lt_of_cell? w _ hw242_2)).trans hw242_2), ((HB.out.cell (World.block_lt_of_cell? w _ hw242_3)).trans hw242_3), ((HB.out.cell (World.block_lt_of_cell? w _ hw242_4)).trans hw242_4), ((HB.out.cell (World.block_lt_of_cell? w _ hw244_0)).trans hw244_0), ((HB.out.cell (World.block_lt_of_cell? w _ hw244_1)).trans hw244_1), ((HB.out.cell (World.block_lt_of_cell? w _ hw244_2)).trans hw244_2), ((HB.out.cell (World.block_lt_of_cell? w _ hw244_3)).trans hw244_3), ((HB.out.cell (World.block_lt_of_cell? w _ hw244_4)).trans hw244_4)⟩ (fun hHeld => ?_)
   clear hK K
   refine norm_ (a' := ?_) ?_ ?_
   rotate_left
   ·show Act.put _ (some 9) _ = _
    simp only [Act.put, s1_, s2_, s3_, i64_w, i32_w]
    rfl
   refine one_ (i := 7) (N := some 14) #[y_,y_,y_,y_,y_,y_,y_,y_,n_,y_,y_,y_,y_,y_,n_,n_] rfl rfl (one_of HT_.out (by kernel_rfl)) (by decide) (fun K hK => ?_)
   refine goes_ Try.func44 (by kernel_rfl) rfl #[.agg #[.int .i64 ((rd_T42 l0 a1).f0), .int .i64 ((rd_T42 l0 a1).f1), .int .i64 ((rd_T42 l0 a1).f2), .int .i64 ((rd_T42 l0 a1).f3), .int .i64 ((rd_T42 l0 a1).f4)]] (by rfl) rfl rfl mp_ ?_
   with_reducible refine (lockgateref02_Size.calls ((rd_T42 l0 a1).f0) ((rd_T42 l0 a1).f1) ((rd_T42 l0 a1).f2) ((rd_T42 l0 a1).f3) ((rd_T42 l0 a1).f4) t243 _ A6.out).mono ?_
   rintro e w9 ⟨rfl, hb⟩
   refine ⟨_, rfl, ?_⟩
   replace HB := bl_ hb
   try clear hb
   refine hK.out _ _ ⟨((HB.out.cell (World.block_lt_of_cell? w _ hw242_0)).trans hw242_0), ((HB.out.cell (World.block_lt_of_cell? w _ hw242_1)).trans hw242_1), ((HB.out.cell (World.block_lt_of_cell? w _ hw242_2)).trans hw242_2), ((HB.out.cell (World.block_lt_of_cell? w _ hw242_3)).trans hw242_3), ((HB.out.cell (World.block_lt_of_cell? w _ hw242_4)).trans hw242_4), ((HB.out.cell (World.block_lt_of_cell? w _ hw244_0)).trans hw244_0), ((HB.out.cell (World.block_lt_of_cell? w _ hw244_1)).trans hw244_1), ((HB.out.cell (World.block_lt_of_cell? w _ hw244_2)).trans hw244_2), ((HB.out.cell (World.block_lt_of_cell? w _ hw244_3)).trans hw244_3), ((HB.out.cell (World.block_lt_of_cell? w _ hw244_4)).trans hw244_4)⟩ (fun hHeld => ?_)
   clear hK K
   refine norm_ (a' := ?_) ?_ ?_
   rotate_left
   ·show Act.put _ (some 14) _ = _
    simp only [Act.put, s1_, s2_, s3_, i64_w, i32_w]
    rfl
   refine pq_ 8 15 #[y_,y_,y_,y_,y_,y_,y_,y_,y_,y_,y_,y_,y_,y_,n_,n_] ?_
   refine pq_ 14 21 #[y_,y_,y_,y_,y_,y_,y_,y_,y_,y_,y_,y_,y_,y_,y_,n_] ?_
   refine pq_ 15 5 #[y_,y_,y_,y_,y_,y_,y_,y_,y_,y_,y_,y_,y_,y_,y_,y_] ?_
   refine done_ (done_of HT_.out (by kernel_rfl)) ?_
   try go_wp2
   go_loopg [6] k (fun kq v6 w' => ∃ (x6_1 : Int), v6 = .int .i64 x6_1 ∧ Aside0 (lockgateref06_Target.l0 kq l0 (wrap64 ((wrap64 (t241 + t243)) + ((rd_T42 l0 a1).f3))) x6_1 = some r) ∧ Aside0 (kq ≤ k) ∧ Aside0 (Below w.heap.size w w'))
   case atStart => exact ⟨(0), (by first | rfl | (simp; done) | (simp [*]; done)), H', ⟨Nat.le_refl _⟩, ⟨bz_⟩⟩
   case round =>
    clear H'
    try clear p2
    try clear q2
    try clear hx2
    try clear c3
    try clear c4
    try clear c4b0
    try clear c5
    try clear c5b0
    try clear p6
    try clear hx242_0
    try clear hx242_1
    try clear hx242_2
    try clear hx242_3
    try clear hx242_4
    try clear hx244_0
    try clear hx244_1
    try clear hx244_2
    try clear hx244_3
    try clear hx244_4
    try clear p242
    try clear p244
    try clear q242
    try clear q244
    obtain ⟨x6_1, rfl, HA, HK1, HB⟩ := hrel
    cases gk with
    | zero => exact absurd HA.out (by simp [lockgateref06_Target.l0])
    | succ k1 =>
     have H := HA.out
     clear HA
     simp only [lockgateref06_Target.l0] at H
     by_cases c10 : x6_1 < (l0.length : Int)
     ·rw [if_pos c10] at H
      have c10b0 : decide (x6_1 < (l0.length : Int)) = true := decide_eq_true c10
      clear c10
      replace H := Option.bind_eq_some_iff.mp H
      obtain ⟨t245, A110, H⟩ := H
      replace H : (if t245 = (wrap64 ((wrap64 (t241 + t243)) + ((rd_T42 l0 a1).f3))) then (some x6_1) else (lockgateref06_Target.l0 k1 l0 (wrap64 ((wrap64 (t241 + t243)) + ((rd_T42 l0 a1).f3))) (wrap64 (x6_1 + 1)))) = some r := H
      have A11 := Aside0.mk A110
      clear A110
      by_cases c12 : t245 = (wrap64 ((wrap64 (t241 + t243)) + ((rd_T42 l0 a1).f3)))
      ·rw [if_pos c12] at H
       have c12b0 : (t245 == (wrap64 ((wrap64 (t241 + t243)) + ((rd_T42 l0 a1).f3)))) = true := beq_iff_eq.mpr c12
       have c12b1 : (t245 != (wrap64 ((wrap64 (t241 + t243)) + ((rd_T42 l0 a1).f3)))) = false := bne_eq_false_iff_eq.mpr c12
       clear c12
       obtain rfl := Option.some.inj H
       go_wp2_with (first | ((with_reducible refine gate_callee (f := 43) rfl ?_); refine goesL_ (some 30) rfl rfl Try.func43 (by kernel_rfl) rfl #[.slice (some ad242) l0.length c0, .int .i64 x6_1] rfl mp_ ?_; (with_reducible refine (lockgateref06_Slot.calls k1 _ _ l0 x6_1 t245 _ ?side1 ?side2 A11.out).mono ?_); (case side1 => repeat (first | exact (Kd.C_below HR0.out HB.out) | (with_reducible refine Kd.C_alloc ?_ _) | (with_reducible refine Kd.C_drewN ?_ _) | (with_reducible refine Kd.C_drew ?_))); (case side2 => exact HC0.out); rintro e w13 ⟨rfl, hb⟩; refine ⟨_, rfl, ?_⟩; replace HB := bl_ hb; (try clear hb); (try clear hb2); (try clear hk); (try clear hi)))
       go_ret
       exact ⟨vv_, bz_⟩
      ·rw [if_neg c12] at H
       have c12b0 : (t245 == (wrap64 ((wrap64 (t241 + t243)) + ((rd_T42 l0 a1).f3)))) = false := beq_eq_false_iff_ne.mpr c12
       have c12b1 : (t245 != (wrap64 ((wrap64 (t241 + t243)) + ((rd_T42 l0 a1).f3)))) = true := bne_iff_ne.mpr c12
       have H' := Aside0.mk H
       clear H
       go_wp2_with (first | ((with_reducible refine gate_callee (f := 43) rfl ?_); refine goesL_ (some 30) rfl rfl Try.func43 (by kernel_rfl) rfl #[.slice (some ad242) l0.length c0, .int .i64 x6_1] rfl mp_ ?_; (with_reducible refine (lockgateref06_Slot.calls k1 _ _ l0 x6_1 t245 _ ?side1 ?side2 A11.out).mono ?_); (case side1 => repeat (first | exact (Kd.C_below HR0.out HB.out) | (with_reducible refine Kd.C_alloc ?_ _) | (with_reducible refine Kd.C_drewN ?_ _) | (with_reducible refine Kd.C_drew ?_))); (case side2 => exact HC0.out); rintro e w14 ⟨rfl, hb⟩; refine ⟨_, rfl, ?_⟩; replace HB := bl_ hb; (try clear hb); (try clear hb2); (try clear hk); (try clear hi)))
       go_roundg k1
       case measure => have := HK1.out; omega
       case rel => exact ⟨(wrap64 (x6_1 + 1)), (by first | rfl | (simp; done) | (simp [*]; done)), H', ⟨by have := HK1.out; omega⟩, ⟨bz_⟩⟩
     ·rw [if_neg c10] at H
      have c10b0 : decide (x6_1 < (l0.length : Int)) = false := decide_eq_false c10
      clear c10
      obtain rfl := Option.some.inj H
      go_wp2
      go_ret
      exact ⟨vv_, bz_⟩
  ·rw [if_neg c5] at H
   exact absurd H (by simp)
 ·rw [if_neg c4] at H
  exact absurd H (by simp)

/-! ### lockgateref06_Exit: function 36 -/
def lockgateref06_Exit.f (a0_0 : Int) (a0_1 : Int) (a0_2 : Int) (a0_3 : Int) (a0_4 : Int) : Option (Bool) := if (Int.tmod a0_0 8) = 5 then (some ((wrap64 (Int.tdiv a0_0 16)) == 9)) else (some false)
set_option maxHeartbeats 8000000 in
set_option maxRecDepth 100000 in
theorem lockgateref06_Exit.calls (a0_0 : Int) (a0_1 : Int) (a0_2 : Int) (a0_3 : Int) (a0_4 : Int) (r : Bool) (w : World) (h : lockgateref06_Exit.f a0_0 a0_1 a0_2 a0_3 a0_4 = some r) :
 Calls Try.prog 36 #[.agg #[.int .i64 a0_0, .int .i64 a0_1, .int .i64 a0_2, .int .i64 a0_3, .int .i64 a0_4]] w fun e w' => e = .returned (.bool r) ∧ Below w.heap.size w w' := by
 have hu42 := Try.underlying42
 have HB := Aside0.mk (Below.refl w.heap.size w)
 have H : (if (Int.tmod a0_0 8) = 5 then (some ((wrap64 (Int.tdiv a0_0 16)) == 9)) else (some false)) = some r := h
 clear h
 by_cases c2 : (Int.tmod a0_0 8) = 5
 ·rw [if_pos c2] at H
  have c2b0 : ((Int.tmod a0_0 8) == 5) = true := beq_iff_eq.mpr c2
  have c2b1 : ((Int.tmod a0_0 8) != 5) = false := bne_eq_false_iff_eq.mpr c2
  clear c2
  obtain rfl := Option.some.inj H
  go_enter Try.func36, Try.ntmps36
  go_wp2_with (first | ((with_reducible refine gate_dst (N := 1) rfl ?_); refine bx_ 1 #[.int .i64 a0_0, .int .i64 a0_1, .int .i64 a0_2, .int .i64 a0_3, .int .i64 a0_4] 42 ?_; intro gb246 hg w3 BK246 hb; have GW246 := bg_ hg; have GE246 := GW246; replace HB := bl_ hb; clear hb hg; obtain ⟨zc4_0, zc4_1, zc4_2, zc4_3, zc4_4, zf4_0, zf4_1, zf4_2, zf4_3, zf4_4⟩ := k5_ BK246))
  go_ret
  exact ⟨vv_, bz_⟩
 ·rw [if_neg c2] at H
  have c2b0 : ((Int.tmod a0_0 8) == 5) = false := beq_eq_false_iff_ne.mpr c2
  have c2b1 : ((Int.tmod a0_0 8) != 5) = true := bne_iff_ne.mpr c2
  obtain rfl := Option.some.inj H
  go_enter Try.func36, Try.ntmps36
  go_wp2_with (first | ((with_reducible refine gate_dst (N := 1) rfl ?_); refine bx_ 1 #[.int .i64 a0_0, .int .i64 a0_1, .int .i64 a0_2, .int .i64 a0_3, .int .i64 a0_4] 42 ?_; intro gb246 hg w5 BK246 hb; have GW246 := bg_ hg; have GE246 := GW246; replace HB := bl_ hb; clear hb hg; obtain ⟨zc6_0, zc6_1, zc6_2, zc6_3, zc6_4, zf6_0, zf6_1, zf6_2, zf6_3, zf6_4⟩ := k5_ BK246))
  go_ret
  exact ⟨vv_, bz_⟩

/-! ### lockgateref06_Ja: function 37 -/
def lockgateref06_Ja.f (a0_0 : Int) (a0_1 : Int) (a0_2 : Int) (a0_3 : Int) (a0_4 : Int) : Option (Bool) := if (Int.tmod a0_0 8) = 5 then (some ((wrap64 (Int.tdiv a0_0 16)) == 0)) else (some false)
set_option maxHeartbeats 8000000 in
set_option maxRecDepth 100000 in
theorem lockgateref06_Ja.calls (a0_0 : Int) (a0_1 : Int) (a0_2 : Int) (a0_3 : Int) (a0_4 : Int) (r : Bool) (w : World) (h : lockgateref06_Ja.f a0_0 a0_1 a0_2 a0_3 a0_4 = some r) :
 Calls Try.prog 37 #[.agg #[.int .i64 a0_0, .int .i64 a0_1, .int .i64 a0_2, .int .i64 a0_3, .int .i64 a0_4]] w fun e w' => e = .returned (.bool r) ∧ Below w.heap.size w w' := by
 have hu42 := Try.underlying42
 have HB := Aside0.mk (Below.refl w.heap.size w)
 have H : (if (Int.tmod a0_0 8) = 5 then (some ((wrap64 (Int.tdiv a0_0 16)) == 0)) else (some false)) = some r := h
 clear h
 by_cases c2 : (Int.tmod a0_0 8) = 5
 ·rw [if_pos c2] at H
  have c2b0 : ((Int.tmod a0_0 8) == 5) = true := beq_iff_eq.mpr c2
  have c2b1 : ((Int.tmod a0_0 8) != 5) = false := bne_eq_false_iff_eq.mpr c2
  clear c2
  obtain rfl := Option.some.inj H
  go_enter Try.func37, Try.ntmps37
  go_wp2_with (first | ((with_reducible refine gate_dst (N := 1) rfl ?_); refine bx_ 1 #[.int .i64 a0_0, .int .i64 a0_1, .int .i64 a0_2, .int .i64 a0_3, .int .i64 a0_4] 42 ?_; intro gb247 hg w3 BK247 hb; have GW247 := bg_ hg; have GE247 := GW247; replace HB := bl_ hb; clear hb hg; obtain ⟨zc4_0, zc4_1, zc4_2, zc4_3, zc4_4, zf4_0, zf4_1, zf4_2, zf4_3, zf4_4⟩ := k5_ BK247))
  go_ret
  exact ⟨vv_, bz_⟩
 ·rw [if_neg c2] at H
  have c2b0 : ((Int.tmod a0_0 8) == 5) = false := beq_eq_false_iff_ne.mpr c2
  have c2b1 : ((Int.tmod a0_0 8) != 5) = true := bne_iff_ne.mpr c2
  obtain rfl := Option.some.inj H
  go_enter Try.func37, Try.ntmps37
  go_wp2_with (first | ((with_reducible refine gate_dst (N := 1) rfl ?_); refine bx_ 1 #[.int .i64 a0_0, .int .i64 a0_1, .int .i64 a0_2, .int .i64 a0_3, .int .i64 a0_4] 42 ?_; intro gb247 hg w5 BK247 hb; have GW247 := bg_ hg; have GE247 := GW247; replace HB := bl_ hb; clear hb hg; obtain ⟨zc6_0, zc6_1, zc6_2, zc6_3, zc6_4, zf6_0, zf6_1, zf6_2, zf6_3, zf6_4⟩ := k5_ BK247))
  go_ret
  exact ⟨vv_, bz_⟩

end Go.Proofs.Ytkcneaaoghgllaa.PA
