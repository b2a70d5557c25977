import Derived.Test.YticijjonimiooaaPA0
import Derived.Test.YticijjonimiooaaSq
import Derived.Test.YticijjonimiooaaPA17
import Derived.Test.YticijjonimiooaaPA19
namespace Go.Proofs.Yticijjonimiooaa.PA
open Go.RowKit Go.Proofs.YticijjonimiooaaW.PrintWords Go.Proofs.YticijjonimiooaaW.PrintLast Go.Proofs.YticijjonimiooaaW.PrintMore
attribute [local go_sem] max2_int min2_int max_two min_two max_three min_three max_four min_four
set_option linter.unusedVariables false
set_option linter.unusedSimpArgs false
mutual
def lockgateref02_Put.l0 : Nat → List (S40) → List Int → Int → Option (List Int × Int)
 | 0, _, _, _ => none
 | k + 1, x0, x4, x5 => if x5 < (x0.length : Int) then (if 0 ≤ x5 then ((lockgateref02_Check.f k ((rd_T40 x0 x5).f0) ((rd_T40 x0 x5).f1) ((rd_T40 x0 x5).f2) ((rd_T40 x0 x5).f3) ((rd_T40 x0 x5).f4)).bind fun t294 => (if t294 = 0 then ((lockgateref02_One.f k ((rd_T40 x0 x5).f0) ((rd_T40 x0 x5).f1) ((rd_T40 x0 x5).f2) ((rd_T40 x0 x5).f3) ((rd_T40 x0 x5).f4)).bind fun t296 => (lockgateref02_Put.l1 k x0 x4 x5 t296 0)) else (some (([] : List Int), t294)))) else (none)) else (some (x4, 0))
def lockgateref02_Put.l1 : Nat → List (S40) → List Int → Int → List Int → Int → Option (List Int × Int)
 | 0, _, _, _, _, _ => none
 | k + 1, x0, x4, x5, x7, x8 => if x8 < (x7.length : Int) then (if 0 ≤ x8 then (if x4.length < 140737488355328 then (lockgateref02_Put.l1 k x0 (x4 ++ [rd x7 x8]) x5 x7 (wrap64 (x8 + 1))) else (none)) else (none)) else (lockgateref02_Put.l0 k x0 x4 (wrap64 (x5 + 1)))
end
def lockgateref02_Put.f (k : Nat) (l0 : List (S40)) : Option (List Int × Int) := if (l0.length : Int) > 256 then (some (([] : List Int), 9)) else (lockgateref02_Put.l0 k l0 ([] : List Int) 0)
theorem lockgateref02_Put.mono_l : ∀ k, (∀ y0 y1 y2, LeO (lockgateref02_Put.l0 k y0 y1 y2) (lockgateref02_Put.l0 (k + 1) y0 y1 y2)) ∧ (∀ y0 y1 y2 y3 y4, LeO (lockgateref02_Put.l1 k y0 y1 y2 y3 y4) (lockgateref02_Put.l1 (k + 1) y0 y1 y2 y3 y4))
 | 0 => ⟨fun _ _ _ r h => by simp [lockgateref02_Put.l0] at h, fun _ _ _ _ _ r h => by simp [lockgateref02_Put.l1] at h⟩
 | k + 1 => by
  obtain ⟨ih0, ih1⟩ := lockgateref02_Put.mono_l k
  refine ⟨?_, ?_⟩
  ·intro y0 y1 y2
   unfold lockgateref02_Put.l0
   repeat' first
   | (with_reducible exact ih0 _ _ _)
   | (with_reducible exact ih1 _ _ _ _ _)
   | (with_reducible exact lockgateref02_Check.mono _ _ _ _ _ _)
   | (with_reducible exact lockgateref02_One.mono _ _ _ _ _ _)
   | (with_reducible exact LeO.refl _)
   | (with_reducible exact LeO.none _)
   | (with_reducible refine LeO.ite ?_ ?_)
   | (with_reducible refine LeO.bind ?_ (fun _ => ?_))
   | exact ih0 _ _ _
   | exact ih1 _ _ _ _ _
   | exact lockgateref02_Check.mono _ _ _ _ _ _
   | exact lockgateref02_One.mono _ _ _ _ _ _
   | exact LeO.none _
   | refine LeO.ite ?_ ?_
   | refine LeO.bind ?_ (fun _ => ?_)
  intro y0 y1 y2 y3 y4
  unfold lockgateref02_Put.l1
  repeat' first
  | (with_reducible exact ih0 _ _ _)
  | (with_reducible exact ih1 _ _ _ _ _)
  | (with_reducible exact lockgateref02_Check.mono _ _ _ _ _ _)
  | (with_reducible exact lockgateref02_One.mono _ _ _ _ _ _)
  | (with_reducible exact LeO.refl _)
  | (with_reducible exact LeO.none _)
  | (with_reducible refine LeO.ite ?_ ?_)
  | (with_reducible refine LeO.bind ?_ (fun _ => ?_))
  | exact ih0 _ _ _
  | exact ih1 _ _ _ _ _
  | exact lockgateref02_Check.mono _ _ _ _ _ _
  | exact lockgateref02_One.mono _ _ _ _ _ _
  | exact LeO.none _
  | refine LeO.ite ?_ ?_
  | refine LeO.bind ?_ (fun _ => ?_)
theorem lockgateref02_Put.mono : ∀ a0 k, LeO (lockgateref02_Put.f k a0) (lockgateref02_Put.f (k + 1) a0) := by
 intro a0 k
 obtain ⟨ih0, ih1⟩ := lockgateref02_Put.mono_l k
 unfold lockgateref02_Put.f
 repeat' first
  | (with_reducible exact ih0 _ _ _)
  | (with_reducible exact ih1 _ _ _ _ _)
  | (with_reducible exact lockgateref02_Check.mono _ _ _ _ _ _)
  | (with_reducible exact lockgateref02_One.mono _ _ _ _ _ _)
  | (with_reducible exact LeO.refl _)
  | (with_reducible exact LeO.none _)
  | (with_reducible refine LeO.ite ?_ ?_)
  | (with_reducible refine LeO.bind ?_ (fun _ => ?_))
  | exact ih0 _ _ _
  | exact ih1 _ _ _ _ _
  | exact lockgateref02_Check.mono _ _ _ _ _ _
  | exact lockgateref02_One.mono _ _ _ _ _ _
  | exact LeO.none _
  | refine LeO.ite ?_ ?_
  | refine LeO.bind ?_ (fun _ => ?_)
set_option maxHeartbeats 8000000 in
set_option maxRecDepth 100000 in
theorem lockgateref02_Put.calls (k : Nat) (A0 : Option Addr) (c0 : Nat) (l0 : List (S40)) (r1 : List Int) (r2 : Int) (w : World) (hr0 : Kd.C k40 w A0 l0.length l0) (hc0 : l0.length ≤ c0) (h : lockgateref02_Put.f k l0 = some (r1, r2)) :
 Calls Try.prog 14 #[.slice A0 l0.length c0] w fun e w' => ∃ v0_ : Value, e = .returned (.tuple #[v0_, .int .i64 r2]) ∧ Kd.R (Kd.int .u8) 5 w' w.heap.size (fun _ => True) v0_ r1 ∧ Below w.heap.size w w' := by
 have hu40 := Try.underlying40
 have HR0 := Aside0.mk hr0
 have HC0 := Aside0.mk hc0
 clear hr0 hc0
 have HB := Aside0.mk (Below.refl w.heap.size w)
 have H : (if (l0.length : Int) > 256 then (some (([] : List Int), 9)) else (lockgateref02_Put.l0 k l0 ([] : List Int) 0)) = some (r1, r2) := h
 clear h
 by_cases c2 : (l0.length : Int) > 256
 ·rw [if_pos c2] at H
  have c2b0 : decide (256 < (l0.length : Int)) = true := decide_eq_true c2
  have c2b1 : decide (256 < l0.length) = true := decide_eq_true (by omega)
  clear c2
  simp only [Option.some.injEq, Prod.mk.injEq] at H
  obtain ⟨rfl, rfl⟩ := H
  go_enter Try.func14, Try.ntmps14
  go_wp2
  go_ret2
  exact ⟨_, by first | rfl | (simp [errW_none, errW_some] <;> rfl) | (simp [*, errW_none, errW_some] <;> rfl), by first | exact Kd.R_nil _ _ _ _ _ | exact Kd.N_nil _ _ _ _ _ | exact Kd.V_nil _ _ _ _ _ | exact Kd.Q_nil _ _ _ _ _ | exact Kd.S_nil _ _ _ _ _, bz_⟩
 rw [if_neg c2] at H
 have c2b0 : decide (256 < (l0.length : Int)) = false := decide_eq_false c2
 have c2b1 : decide (256 < l0.length) = false := decide_eq_false (by omega)
 clear c2
 have H' := Aside0.mk H
 clear H
 go_enter Try.func14, Try.ntmps14
 go_wp2
 go_loopg [4, 5] k (fun kq v4 v5 w' => ∃ (x4_1 : List Int) (x5_1 : Int), v5 = .int .i64 x5_1 ∧ Aside0 (lockgateref02_Put.l0 kq l0 x4_1 x5_1 = some (r1, r2)) ∧ Aside0 (kq ≤ k) ∧ Aside0 (Kd.R (Kd.int .u8) 5 w' w.heap.size (fun _ => True) v4 x4_1) ∧ Aside0 (Below w.heap.size w w'))
 case atStart => exact ⟨(([] : List Int)), (0), vs_, H', ⟨Nat.le_refl _⟩, ⟨by first | exact Kd.R_nil _ _ _ _ _ | exact Kd.N_nil _ _ _ _ _ | exact Kd.V_nil _ _ _ _ _ | exact Kd.Q_nil _ _ _ _ _ | exact Kd.S_nil _ _ _ _ _⟩, ⟨bz_⟩⟩
 case round =>
  clear H'
  try clear c1
  try clear c2
  try clear c2b0
  try clear c2b1
  try clear p2
  obtain ⟨x4_1, x5_1, rfl, HA, HK1, HO_4, HB⟩ := hrel
  cases gk with
  | zero => exact absurd HA.out (by simp [lockgateref02_Put.l0])
  | succ k1 =>
   have H := HA.out
   clear HA
   simp only [lockgateref02_Put.l0] at H
   by_cases c3 : x5_1 < (l0.length : Int)
   rotate_left
   ·rw [if_neg c3] at H
    have c3b0 : decide (x5_1 < (l0.length : Int)) = false := decide_eq_false c3
    clear c3
    simp only [Option.some.injEq, Prod.mk.injEq] at H
    obtain ⟨rfl, rfl⟩ := H
    go_wp2
    go_ret2
    exact ⟨_, by first | rfl | (simp [errW_none, errW_some] <;> rfl) | (simp [*, errW_none, errW_some] <;> rfl), by (with_reducible repeat (first | apply Kd.R_alloc | apply Kd.R_drewN | apply Kd.R_drew)); exact HO_4.out, bz_⟩
   rw [if_pos c3] at H
   have c3b0 : decide (x5_1 < (l0.length : Int)) = true := decide_eq_true c3
   clear c3
   by_cases c4 : 0 ≤ x5_1
   rotate_left
   ·rw [if_neg c4] at H
    exact absurd H (by simp)
   rw [if_pos c4] at H
   have c4b0 : decide (0 ≤ x5_1) = true := decide_eq_true c4
   clear c4
   replace H := Option.bind_eq_some_iff.mp H
   obtain ⟨t294, A50, H⟩ := H
   (try dsimp only at H)
   have A5 := Aside0.mk A50
   clear A50
   by_cases c6 : t294 = 0
   rotate_left
   ·rw [if_neg c6] at H
    have c6b0 : (t294 == 0) = false := beq_eq_false_iff_ne.mpr c6
    have c6b1 : (t294 != 0) = true := bne_iff_ne.mpr c6
    simp only [Option.some.injEq, Prod.mk.injEq] at H
    obtain ⟨rfl, rfl⟩ := H
    have p293 : 0 ≤ (x5_1 : Int) := of_decide_eq_true as_
    have q293 : x5_1 < (l0.length : Int) := of_decide_eq_true as_
    obtain ⟨ad293, e293, hx293_0, hx293_1, hx293_2, hx293_3, hx293_4⟩ := at_T40 HR0.out x5_1 p293 q293
    cases e293
    replace hx293_0 := (hc_ HB hx293_0 :)
    replace hx293_1 := (hc_ HB hx293_1 :)
    replace hx293_2 := (hc_ HB hx293_2 :)
    replace hx293_3 := (hc_ HB hx293_3 :)
    replace hx293_4 := (hc_ HB hx293_4 :)
    replace p293 := eq_true p293
    replace q293 := eq_true q293
    go_wp2_with (first | ((with_reducible refine gate_callee (f := 28) rfl ?_); refine gM_ 22 Try.func28 (lockgateref02_Check.calls k1 ((rd_T40 l0 x5_1).f0) ((rd_T40 l0 x5_1).f1) ((rd_T40 l0 x5_1).f2) ((rd_T40 l0 x5_1).f3) ((rd_T40 l0 x5_1).f4) t294 _ A5.out) ?_; intro w16 hb; replace HO_4 := Aside0.mk (Kd.R_below (ra_ HO_4.out) hb); replace HB := bl_ hb; (try clear hb); (try clear hk); ))
    go_ret2
    exact ⟨_, by first | rfl | (simp [errW_none, errW_some] <;> rfl) | (simp [*, errW_none, errW_some] <;> rfl), by first | exact Kd.R_nil _ _ _ _ _ | exact Kd.N_nil _ _ _ _ _ | exact Kd.V_nil _ _ _ _ _ | exact Kd.Q_nil _ _ _ _ _ | exact Kd.S_nil _ _ _ _ _, bz_⟩
   rw [if_pos c6] at H
   have c6b0 : (t294 == 0) = true := beq_iff_eq.mpr c6
   have c6b1 : (t294 != 0) = false := bne_eq_false_iff_eq.mpr c6
   clear c6
   replace H := Option.bind_eq_some_iff.mp H
   obtain ⟨t296, A70, H⟩ := H
   (try dsimp only at H)
   have A7 := Aside0.mk A70
   clear A70
   have H' := Aside0.mk H
   clear H
   have p293 : 0 ≤ (x5_1 : Int) := of_decide_eq_true as_
   have q293 : x5_1 < (l0.length : Int) := of_decide_eq_true as_
   obtain ⟨ad293, e293, hx293_0, hx293_1, hx293_2, hx293_3, hx293_4⟩ := at_T40 HR0.out x5_1 p293 q293
   cases e293
   replace hx293_0 := (hc_ HB hx293_0 :)
   replace hx293_1 := (hc_ HB hx293_1 :)
   replace hx293_2 := (hc_ HB hx293_2 :)
   replace hx293_3 := (hc_ HB hx293_3 :)
   replace hx293_4 := (hc_ HB hx293_4 :)
   replace p293 := eq_true p293
   replace q293 := eq_true q293
   go_wp2_with (first | ((with_reducible refine gate_callee (f := 28) rfl ?_); refine gM_ 22 Try.func28 (lockgateref02_Check.calls k1 ((rd_T40 l0 x5_1).f0) ((rd_T40 l0 x5_1).f1) ((rd_T40 l0 x5_1).f2) ((rd_T40 l0 x5_1).f3) ((rd_T40 l0 x5_1).f4) t294 _ A5.out) ?_; intro w8 hb; replace HO_4 := Aside0.mk (Kd.R_below (ra_ HO_4.out) hb); replace HB := bl_ hb; (try clear hb); (try clear hk); have p295 : 0 ≤ (x5_1 : Int) := of_decide_eq_true as_; have q295 : x5_1 < (l0.length : Int) := of_decide_eq_true as_; obtain ⟨ad295, e295, hx295_0, hx295_1, hx295_2, hx295_3, hx295_4⟩ := at_T40 HR0.out x5_1 p295 q295; obtain rfl : ad293 = ad295 := (by injection e295); replace hx295_0 := (hc_ HB hx295_0 :); replace hx295_1 := (hc_ HB hx295_1 :); replace hx295_2 := (hc_ HB hx295_2 :); replace hx295_3 := (hc_ HB hx295_3 :); replace hx295_4 := (hc_ HB hx295_4 :); replace p295 := eq_true p295; replace q295 := eq_true q295) | ((with_reducible refine gate_callee (f := 34) rfl ?_); refine goesL_ (some 30) rfl rfl Try.func34 (by kernel_rfl) rfl #[.agg #[.int .i64 ((rd_T40 l0 x5_1).f0), .int .i64 ((rd_T40 l0 x5_1).f1), .int .i64 ((rd_T40 l0 x5_1).f2), .int .i64 ((rd_T40 l0 x5_1).f3), .int .i64 ((rd_T40 l0 x5_1).f4)]] rfl mp_ ?_; (with_reducible refine (lockgateref02_One.calls k1 ((rd_T40 l0 x5_1).f0) ((rd_T40 l0 x5_1).f1) ((rd_T40 l0 x5_1).f2) ((rd_T40 l0 x5_1).f3) ((rd_T40 l0 x5_1).f4) t296 _ A7.out).mono ?_); rintro e w9 ⟨v297, rfl, ho0, hb⟩; refine ⟨_, rfl, ?_⟩; have n0_ := Aside0.mk (Kd.R_elder' (ra_ HO_4.out) (Kd.R_base ho0) hb); have n1_ := Aside0.mk (Kd.R_lower (Kd.R_new' ho0 (Kd.R_lt (ra_ HO_4.out))) (below_size bz_)); have n2_ := bl_ hb; clear HO_4; clear HB; have HO_4 := n0_; have HO298 := n1_; have HB := n2_; clear n0_ n1_ n2_; (try clear hb); (try clear hk); (try clear ho0)))
   go_loopg [4, 8] k1 (fun kq v4 v8 w' => ∃ (x4_2 : List Int) (x8_2 : Int), v8 = .int .i64 x8_2 ∧ Aside0 (lockgateref02_Put.l1 kq l0 x4_2 x5_1 t296 x8_2 = some (r1, r2)) ∧ Aside0 (kq ≤ k1) ∧ Aside0 (Kd.R (Kd.int .u8) 5 w' w.heap.size (fun k_ => some k_ ≠ (v297 : Value).ownBlock) v4 x4_2) ∧ Aside0 (Kd.R (Kd.int .u8) 5 w' w.heap.size (fun k_ => some k_ ≠ (v4 : Value).ownBlock) v297 t296) ∧ Aside0 (Below w.heap.size w w'))
   case atStart => exact ⟨(x4_1), (0), vs_, H', ⟨Nat.le_refl _⟩, ⟨by (with_reducible repeat (first | apply Kd.R_alloc | apply Kd.R_drewN | apply Kd.R_drew)); exact Kd.R_mono HO_4.out (fun _ hk => hk.2)⟩, ⟨by (with_reducible repeat (first | apply Kd.R_alloc | apply Kd.R_drewN | apply Kd.R_drew)); exact Kd.R_mono HO298.out (fun _ hk => hk.2)⟩, ⟨bz_⟩⟩
   case round =>
    clear H'
    try clear c1
    try clear c2
    try clear c2b0
    try clear c2b1
    try clear p2
    try clear q2
    try clear hx2
    try clear c3
    try clear c3b0
    try clear c4
    try clear c4b0
    try clear c6
    try clear c6b0
    try clear c6b1
    try clear hx293_0
    try clear hx293_1
    try clear hx293_2
    try clear hx293_3
    try clear hx293_4
    try clear hx295_0
    try clear hx295_1
    try clear hx295_2
    try clear hx295_3
    try clear hx295_4
    try clear p2
    try clear p293
    try clear p295
    try clear q293
    try clear q295
    obtain ⟨x4_2, x8_2, rfl, HA, HK2, HO_4, HO_7, HB⟩ := hrel
    cases gk with
    | zero => exact absurd HA.out (by simp [lockgateref02_Put.l1])
    | succ k2 =>
     have H := HA.out
     clear HA
     simp only [lockgateref02_Put.l1] at H
     by_cases c10 : x8_2 < (t296.length : Int)
     ·rw [if_pos c10] at H
      have c10b0 : decide (x8_2 < (t296.length : Int)) = true := decide_eq_true c10
      clear c10
      by_cases c11 : 0 ≤ x8_2
      ·rw [if_pos c11] at H
       have c11b0 : decide (0 ≤ x8_2) = true := decide_eq_true c11
       clear c11
       by_cases c12 : x4_2.length < 140737488355328
       ·rw [if_pos c12] at H
        have LMc12 := Aside0.mk c12
        clear c12
        obtain ⟨y300, hy300⟩ : ∃ Y : List Int, Y = (x4_2 ++ [rd t296 x8_2]) := ⟨_, rfl⟩
        replace H : (lockgateref02_Put.l1 k2 l0 y300 x5_1 t296 (wrap64 (x8_2 + 1))) = some (r1, r2) := by first | (rw [hy300]; with_reducible exact H) | (have H2_ := (Option.bind_some _ _).symm.trans H; rw [hy300]; with_reducible exact H2_) | (have H2_ := (Option.bind_some _ _).symm.trans H; with_reducible exact H2_) | with_reducible exact H | (rw [hy300]; exact H) | exact H
        have Ny300 := Aside0.mk hy300
        clear hy300
        have H' := Aside0.mk H
        clear H
        obtain ⟨Ao13, co13, eo13⟩ := Kd.R_slice HO_7.out
        subst eo13
        have p299 : 0 ≤ (x8_2 : Int) := of_decide_eq_true as_
        have q299 : x8_2 < (t296.length : Int) := of_decide_eq_true as_
        obtain ⟨ad299, e299, hx299_0⟩ := Kd.at_int (Kd.R_reads' HO_7.out).2.2 x8_2 p299 q299
        cases e299
        replace p299 := eq_true p299
        replace q299 := eq_true q299
        go_wp2_with (first | ((with_reducible refine gate_builtin (b := .append) (xs := #[.tmp 37, .tmp 42]) rfl ?_); at_builtin; refine Kd.R_append (Kd.int .u8) (w0 := w) w.heap.size rfl (.tmp 37) (.tmp 42) 25 5 (.int .u8 0) 1 rfl Try.underlying25 info5 rfl (by decide) (by omega) u4 x4_2 (rd t296 x8_2) [.int .u8 (rd t296 x8_2)] (fun k_ => some k_ ≠ (.slice (some ad299) t296.length co13 : Value).ownBlock) (fun _ => False) rfl rfl ?aP (fun _ hk => hk.elim) ?aF ?aO ?aB ?aS ?aL ?_; (case aP => exact rfl); (case aB => exact bz_); (case aF => exact (fun k_ hk => Kd.fresh' (Kd.R_lt (ra_ HO_7.out)) k_ hk)); (case aO => exact (ra_ HO_4.out)); (case aS => exact (below_size bz_)); (case aL => have := LMc12.out; omega); intro v301 w14 ho hb hg hat; rw [← Ny300.out] at ho; have n0_ := Aside0.mk (Kd.R_after (ok := (fun _ => True)) (by (with_reducible repeat (first | apply Kd.R_alloc | apply Kd.R_drewN | apply Kd.R_drew)); exact Kd.R_mono HO_7.out (fun _ hk => ⟨trivial, hk⟩)) hg hat); have n1_ := Aside0.mk (hb); have n2_ := Aside0.mk (ho); clear HO_7; clear HB; clear HO_4; have HO_7 := n0_; have HB := n1_; have HO302 := n2_; clear n0_ n1_ n2_; clear ho hb hg hat))
        go_roundg k2
        case measure => have := HK1.out; have := HK2.out; omega
        case rel => exact ⟨(y300), (wrap64 (x8_2 + 1)), vs_, H', ⟨by have := HK1.out; have := HK2.out; omega⟩, ⟨by (with_reducible repeat (first | apply Kd.R_alloc | apply Kd.R_drewN | apply Kd.R_drew)); exact HO302.out⟩, ⟨by (with_reducible repeat (first | apply Kd.R_alloc | apply Kd.R_drewN | apply Kd.R_drew)); exact Kd.R_mono HO_7.out (fun _ hk => hk.2)⟩, ⟨bz_⟩⟩
       rw [if_neg c12] at H
       exact absurd H (by simp)
      rw [if_neg c11] at H
      exact absurd H (by simp)
     rw [if_neg c10] at H
     have c10b0 : decide (x8_2 < (t296.length : Int)) = false := decide_eq_false c10
     clear c10
     have H' := Aside0.mk H
     clear H
     obtain ⟨Ao15, co15, eo15⟩ := Kd.R_slice HO_7.out
     subst eo15
     go_wp2
     go_roundg k2
     case measure => have := HK1.out; have := HK2.out; omega
     case rel => exact ⟨(x4_2), (wrap64 (x5_1 + 1)), vs_, H', ⟨by have := HK1.out; have := HK2.out; omega⟩, ⟨by (with_reducible repeat (first | apply Kd.R_alloc | apply Kd.R_drewN | apply Kd.R_drew)); exact Kd.R_mono HO_4.out (fun _ hk => trivial)⟩, ⟨bz_⟩⟩
def lockgateref02_Size.f (a0_0 : Int) (a0_1 : Int) (a0_2 : Int) (a0_3 : Int) (a0_4 : Int) : Option (Int) := if a0_0 = 24 then (some 2) else (some 1)
set_option maxHeartbeats 8000000 in
set_option maxRecDepth 100000 in
theorem lockgateref02_Size.calls (a0_0 : Int) (a0_1 : Int) (a0_2 : Int) (a0_3 : Int) (a0_4 : Int) (r : Int) (w : World) (h : lockgateref02_Size.f a0_0 a0_1 a0_2 a0_3 a0_4 = some r) :
 Calls Try.prog 29 #[.agg #[.int .i64 a0_0, .int .i64 a0_1, .int .i64 a0_2, .int .i64 a0_3, .int .i64 a0_4]] w fun e w' => e = .returned (.int .i64 r) ∧ Below w.heap.size w w' := by
 have hu40 := Try.underlying40
 have HB := Aside0.mk (Below.refl w.heap.size w)
 have H : (if a0_0 = 24 then (some 2) else (some 1)) = some r := h
 clear h
 by_cases c2 : a0_0 = 24
 ·rw [if_pos c2] at H
  have c2b0 : (a0_0 == 24) = true := beq_iff_eq.mpr c2
  have c2b1 : (a0_0 != 24) = false := bne_eq_false_iff_eq.mpr c2
  clear c2
  obtain rfl := Option.some.inj H
  go_enter Try.func29, Try.ntmps29
  go_wp2_with (first | ((with_reducible refine gate_dst (N := 1) rfl ?_); refine bx_ 1 #[.int .i64 a0_0, .int .i64 a0_1, .int .i64 a0_2, .int .i64 a0_3, .int .i64 a0_4] 40 ?_; intro gb356 hg w3 BK356 hb; have GW356 := bg_ hg; have GE356 := GW356; replace HB := bl_ hb; clear hb hg; obtain ⟨zc4_0, zc4_1, zc4_2, zc4_3, zc4_4, zf4_0, zf4_1, zf4_2, zf4_3, zf4_4⟩ := k5_ BK356))
  go_ret
  exact ⟨vv_, bz_⟩
 rw [if_neg c2] at H
 have c2b0 : (a0_0 == 24) = false := beq_eq_false_iff_ne.mpr c2
 have c2b1 : (a0_0 != 24) = true := bne_iff_ne.mpr c2
 obtain rfl := Option.some.inj H
 go_enter Try.func29, Try.ntmps29
 go_wp2_with (first | ((with_reducible refine gate_dst (N := 1) rfl ?_); refine bx_ 1 #[.int .i64 a0_0, .int .i64 a0_1, .int .i64 a0_2, .int .i64 a0_3, .int .i64 a0_4] 40 ?_; intro gb356 hg w5 BK356 hb; have GW356 := bg_ hg; have GE356 := GW356; replace HB := bl_ hb; clear hb hg; obtain ⟨zc6_0, zc6_1, zc6_2, zc6_3, zc6_4, zf6_0, zf6_1, zf6_2, zf6_3, zf6_4⟩ := k5_ BK356))
 go_ret
 exact ⟨vv_, bz_⟩
def lockgateref02_signed.l0 : Nat → List Int → Int → Int → Option (Int)
 | 0, _, _, _ => none
 | k + 1, x0, x3, x4 => if x4 ≥ 0 then (if 0 ≤ x4 then (if x4 < (x0.length : Int) then (lockgateref02_signed.l0 k x0 (wrap64 ((wrap64 (x3 * 256)) + (wrap64 (rd x0 x4)))) (wrap64 (x4 - 1))) else (none)) else (none)) else (if (x0.length : Int) < 8 then (if 0 ≤ (wrap64 ((x0.length : Int) - 1)) then (if (wrap64 ((x0.length : Int) - 1)) < (x0.length : Int) then (if (rd x0 (wrap64 ((x0.length : Int) - 1))) ≥ 128 then (if 0 ≤ (IntKind.u64.wrap (wrap64 (8 * (x0.length : Int)))) then (some (wrap64 (x3 - (shl .i64 1 (IntKind.u64.wrap (wrap64 (8 * (x0.length : Int)))))))) else (none)) else (some x3)) else (none)) else (none)) else (some x3))
def lockgateref02_signed.f (k : Nat) (l0 : List Int) : Option (Int) := lockgateref02_signed.l0 k l0 0 (wrap64 ((l0.length : Int) - 1))
theorem lockgateref02_signed.mono_l : ∀ k, (∀ y0 y1 y2, LeO (lockgateref02_signed.l0 k y0 y1 y2) (lockgateref02_signed.l0 (k + 1) y0 y1 y2))
 | 0 => fun _ _ _ r h => by simp [lockgateref02_signed.l0] at h
 | k + 1 => by
  have ih0 := lockgateref02_signed.mono_l k
  intro y0 y1 y2
  unfold lockgateref02_signed.l0
  repeat' first
  | (with_reducible exact ih0 _ _ _)
  | (with_reducible exact LeO.refl _)
  | (with_reducible exact LeO.none _)
  | (with_reducible refine LeO.ite ?_ ?_)
  | (with_reducible refine LeO.bind ?_ (fun _ => ?_))
  | exact ih0 _ _ _
  | exact LeO.none _
  | refine LeO.ite ?_ ?_
  | refine LeO.bind ?_ (fun _ => ?_)
theorem lockgateref02_signed.mono : ∀ a0 k, LeO (lockgateref02_signed.f k a0) (lockgateref02_signed.f (k + 1) a0) := by
 intro a0 k
 have ih0 := lockgateref02_signed.mono_l k
 unfold lockgateref02_signed.f
 repeat' first
  | (with_reducible exact ih0 _ _ _)
  | (with_reducible exact LeO.refl _)
  | (with_reducible exact LeO.none _)
  | (with_reducible refine LeO.ite ?_ ?_)
  | (with_reducible refine LeO.bind ?_ (fun _ => ?_))
  | exact ih0 _ _ _
  | exact LeO.none _
  | refine LeO.ite ?_ ?_
  | refine LeO.bind ?_ (fun _ => ?_)
set_option maxHeartbeats 8000000 in
set_option maxRecDepth 100000 in
theorem lockgateref02_signed.calls (k : Nat) (A0 : Option Addr) (c0 : Nat) (l0 : List Int) (r : Int) (w : World) (hr0 : Kd.C (Kd.int .u8) w A0 l0.length l0) (hc0 : l0.length ≤ c0) (h : lockgateref02_signed.f k l0 = some r) :
 Calls Try.prog 38 #[.slice A0 l0.length c0] w fun e w' => e = .returned (.int .i64 r) ∧ Drawn0 w w' := by
 have HR0 := Aside0.mk hr0
 have HC0 := Aside0.mk hc0
 clear hr0 hc0
 have H : (lockgateref02_signed.l0 k l0 0 (wrap64 ((l0.length : Int) - 1))) = some r := h
 clear h
 have H' := Aside0.mk H
 clear H
 go_enter Try.func38, Try.ntmps38
 go_wp2
 go_loopg [3, 4] k (fun kq v3 v4 w' => ∃ (x3_1 : Int) (x4_1 : Int), v3 = .int .i64 x3_1 ∧ v4 = .int .i64 x4_1 ∧ Aside0 (lockgateref02_signed.l0 kq l0 x3_1 x4_1 = some r) ∧ Aside0 (kq ≤ k) ∧ Drawn0 w w')
 case atStart => exact ⟨(0), (wrap64 ((l0.length : Int) - 1)), vs_, vs_, H', ⟨Nat.le_refl _⟩, by repeat (first | exact Drawn0.refl _ | apply Drawn0.step)⟩
 case round =>
  clear H'
  obtain ⟨x3_1, x4_1, rfl, rfl, HA, HK1, ⟨m1, rfl⟩⟩ := hrel
  cases gk with
  | zero => exact absurd HA.out (by simp [lockgateref02_signed.l0])
  | succ k1 =>
   have H := HA.out
   clear HA
   simp only [lockgateref02_signed.l0] at H
   by_cases c2 : x4_1 ≥ 0
   ·rw [if_pos c2] at H
    have c2b0 : decide (0 ≤ x4_1) = true := decide_eq_true c2
    clear c2
    by_cases c3 : 0 ≤ x4_1
    ·rw [if_pos c3] at H
     have c3b0 : decide (0 ≤ x4_1) = true := decide_eq_true c3
     clear c3
     by_cases c4 : x4_1 < (l0.length : Int)
     ·rw [if_pos c4] at H
      have c4b0 : decide (x4_1 < (l0.length : Int)) = true := decide_eq_true c4
      clear c4
      have H' := Aside0.mk H
      clear H
      have p357 : 0 ≤ (x4_1 : Int) := of_decide_eq_true as_
      have q357 : x4_1 < (l0.length : Int) := of_decide_eq_true as_
      obtain ⟨ad357, e357, hx357_0⟩ := Kd.at_int HR0.out x4_1 p357 q357
      cases e357
      replace p357 := eq_true p357
      replace q357 := eq_true q357
      go_wp2
      go_roundg k1
      case measure => have := HK1.out; omega
      case rel => exact ⟨(wrap64 ((wrap64 (x3_1 * 256)) + (wrap64 (rd l0 x4_1)))), (wrap64 (x4_1 - 1)), vs_, vs_, H', ⟨by have := HK1.out; omega⟩, by repeat (first | exact Drawn0.refl _ | apply Drawn0.step)⟩
     rw [if_neg c4] at H
     exact absurd H (by simp)
    rw [if_neg c3] at H
    exact absurd H (by simp)
   rw [if_neg c2] at H
   have c2b0 : decide (0 ≤ x4_1) = false := decide_eq_false c2
   clear c2
   by_cases c5 : (l0.length : Int) < 8
   rotate_left
   ·rw [if_neg c5] at H
    have c5b0 : decide ((l0.length : Int) < 8) = false := decide_eq_false c5
    have c5b1 : decide (l0.length < 8) = false := decide_eq_false (by omega)
    clear c5
    obtain rfl := Option.some.inj H
    go_wp2
    go_ret
    exact ⟨by first | rfl | (simp; done) | (simp [*]; done), by repeat (first | exact Drawn0.refl _ | apply Drawn0.step)⟩
   rw [if_pos c5] at H
   have c5b0 : decide ((l0.length : Int) < 8) = true := decide_eq_true c5
   have c5b1 : decide (l0.length < 8) = true := decide_eq_true (by omega)
   clear c5
   obtain ⟨ji6, hji6⟩ : ∃ j_ : Int, (wrap64 ((l0.length : Int) - 1)) = j_ := ⟨_, rfl⟩
   replace H : (if 0 ≤ (ji6) then (if (ji6) < (l0.length : Int) then (if (rd l0 (ji6)) ≥ 128 then (if 0 ≤ (IntKind.u64.wrap (wrap64 (8 * (l0.length : Int)))) then (some (wrap64 (x3_1 - (shl .i64 1 (IntKind.u64.wrap (wrap64 (8 * (l0.length : Int)))))))) else (none)) else (some x3_1)) else (none)) else (none)) = some r := by first | (rw [hji6] at H; exact H) | (simp only [hji6] at H ⊢; exact H)
   have hji6w : (IntKind.i64.wrap ((l0.length : Int) - 1)) = ji6 := (i64_w _).trans hji6
   by_cases c7 : 0 ≤ (ji6)
   rotate_left
   ·rw [if_neg c7] at H
    exact absurd H (by simp)
   rw [if_pos c7] at H
   have c7b0 : decide (0 ≤ (ji6)) = true := decide_eq_true c7
   clear c7
   by_cases c8 : (ji6) < (l0.length : Int)
   rotate_left
   ·rw [if_neg c8] at H
    exact absurd H (by simp)
   rw [if_pos c8] at H
   have c8b0 : decide ((ji6) < (l0.length : Int)) = true := decide_eq_true c8
   clear c8
   by_cases c9 : (rd l0 (ji6)) ≥ 128
   ·rw [if_pos c9] at H
    have c9b0 : decide (128 ≤ (rd l0 (ji6))) = true := decide_eq_true c9
    clear c9
    obtain ⟨ji10, hji10⟩ : ∃ j_ : Int, (IntKind.u64.wrap (wrap64 (8 * (l0.length : Int)))) = j_ := ⟨_, rfl⟩
    replace H : (if 0 ≤ (ji10) then (some (wrap64 (x3_1 - (shl .i64 1 (ji10))))) else (none)) = some r := by first | (rw [hji10] at H; exact H) | (simp only [hji10] at H ⊢; exact H)
    by_cases c11 : 0 ≤ (ji10)
    ·rw [if_pos c11] at H
     have c11b0 := eq_true c11
     have c11b1 : decide (0 ≤ (ji10)) = true := decide_eq_true c11
     clear c11
     obtain ⟨ji12, hji12⟩ : ∃ j_ : Int, (shl .i64 1 (ji10)) = j_ := ⟨_, rfl⟩
     replace H : (some (wrap64 (x3_1 - (ji12)))) = some r := by first | (rw [hji12] at H; exact H) | (simp only [hji12] at H ⊢; exact H)
     have hji12_ : (IntKind.i64.wrap (1 * 2 ^ min (ji10).toNat 64)) = ji12 := hji12
     have hji12z : (ji10) ≤ 64 → (IntKind.i64.wrap (1 * 2 ^ (ji10).toNat)) = ji12 := shl_small hji12
     have hji12u : (IntKind.i64.wrap (2 ^ min (ji10).toNat 64)) = ji12 := by have h_ := hji12_; rw [Int.one_mul] at h_; exact h_
     have hji12v : (ji10) ≤ 64 → (IntKind.i64.wrap (2 ^ (ji10).toNat)) = ji12 := fun hle_ => by have h_ := hji12z hle_; rw [Int.one_mul] at h_; exact h_
     have hji12y : (wrap64 (1 * 2 ^ min (ji10).toNat 64)) = ji12 := (i64_w _).symm.trans hji12_
     have hji12x : (ji10) ≤ 64 → (wrap64 (1 * 2 ^ (ji10).toNat)) = ji12 := fun h_ => (i64_w _).symm.trans (hji12z h_)
     obtain rfl := Option.some.inj H
     have p358 : 0 ≤ ((ji6) : Int) := of_decide_eq_true as_
     have q358 : (ji6) < (l0.length : Int) := of_decide_eq_true as_
     obtain ⟨ad358, e358, hx358_0⟩ := Kd.at_int HR0.out (ji6) p358 q358
     cases e358
     replace p358 := eq_true p358
     replace q358 := eq_true q358
     go_wp2
     go_ret
     exact ⟨by first | rfl | (simp; done) | (simp only [← hji6, ← hji10, ← hji12] <;> (first | rfl | simp)) | (simp [*]; done), by repeat (first | exact Drawn0.refl _ | apply Drawn0.step)⟩
    rw [if_neg c11] at H
    exact absurd H (by simp)
   rw [if_neg c9] at H
   have c9b0 : decide (128 ≤ (rd l0 (ji6))) = false := decide_eq_false c9
   clear c9
   obtain rfl := Option.some.inj H
   have p358 : 0 ≤ ((ji6) : Int) := of_decide_eq_true as_
   have q358 : (ji6) < (l0.length : Int) := of_decide_eq_true as_
   obtain ⟨ad358, e358, hx358_0⟩ := Kd.at_int HR0.out (ji6) p358 q358
   cases e358
   replace p358 := eq_true p358
   replace q358 := eq_true q358
   go_wp2
   go_ret
   exact ⟨by first | rfl | (simp; done) | (simp only [← hji6] <;> (first | rfl | simp)) | (simp [*]; done), by repeat (first | exact Drawn0.refl _ | apply Drawn0.step)⟩
end Go.Proofs.Yticijjonimiooaa.PA
