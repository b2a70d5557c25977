import Derived.Test.YticijjonimiooaaWRepsOne
import Derived.Test.YticijjonimiooaaPA0
import Derived.Test.YticijjonimiooaaSq
namespace Go.Proofs.Yticijjonimiooaa.PA
open Go.RowKit Go.Proofs.YticijjonimiooaaW.PrintWords Go.Proofs.YticijjonimiooaaW.PrintLast Go.Proofs.YticijjonimiooaaW.PrintMore
attribute [local go_sem] max2_int min2_int max_two min_two max_three min_three max_four min_four
set_option linter.unusedVariables false
set_option linter.unusedSimpArgs false
mutual
def lockgateref02_Width.l0 : Nat → Int → Int → Int → Int → Int → Int → Option (Int)
 | 0, _, _, _, _, _, _ => none
 | k + 1, x3, x522000, x522001, x522002, x522003, x522004 => if x3 < 4 then (lockgateref02_Width.l1 k x3 1 x522000 x522001 x522002 x522003 x522004) else (some 0)
def lockgateref02_Width.l1 : Nat → Int → Int → Int → Int → Int → Int → Int → Option (Int)
 | 0, _, _, _, _, _, _, _ => none
 | k + 1, x3, x4, x522000, x522001, x522002, x522003, x522004 => if x4 ≤ 3 then (if x522000 = (wrap64 ((wrap64 (96 + (wrap64 (8 * x3)))) + x4)) then ((some (([4, 2, 1, 8] : List Int) : List Int)).bind fun y522 => (if 0 ≤ x3 then (if x3 < (y522.length : Int) then (some (rd y522 x3)) else (none)) else (none))) else (lockgateref02_Width.l1 k x3 (wrap64 (x4 + 1)) x522000 x522001 x522002 x522003 x522004)) else (lockgateref02_Width.l0 k (wrap64 (x3 + 1)) x522000 x522001 x522002 x522003 x522004)
end
def lockgateref02_Width.f (k : Nat) (a0_0 : Int) (a0_1 : Int) (a0_2 : Int) (a0_3 : Int) (a0_4 : Int) : Option (Int) := lockgateref02_Width.l0 k 0 a0_0 a0_1 a0_2 a0_3 a0_4
theorem lockgateref02_Width.mono_l : ∀ k, (∀ y0 y1 y2 y3 y4 y5, LeO (lockgateref02_Width.l0 k y0 y1 y2 y3 y4 y5) (lockgateref02_Width.l0 (k + 1) y0 y1 y2 y3 y4 y5)) ∧ (∀ y0 y1 y2 y3 y4 y5 y6, LeO (lockgateref02_Width.l1 k y0 y1 y2 y3 y4 y5 y6) (lockgateref02_Width.l1 (k + 1) y0 y1 y2 y3 y4 y5 y6))
 | 0 => ⟨fun _ _ _ _ _ _ r h => by simp [lockgateref02_Width.l0] at h, fun _ _ _ _ _ _ _ r h => by simp [lockgateref02_Width.l1] at h⟩
 | k + 1 => by
  obtain ⟨ih0, ih1⟩ := lockgateref02_Width.mono_l k
  refine ⟨?_, ?_⟩
  ·intro y0 y1 y2 y3 y4 y5
   unfold lockgateref02_Width.l0
   repeat' first
   | (with_reducible exact ih0 _ _ _ _ _ _)
   | (with_reducible exact ih1 _ _ _ _ _ _ _)
   | (with_reducible exact LeO.refl _)
   | (with_reducible exact LeO.none _)
   | (with_reducible refine LeO.ite ?_ ?_)
   | (with_reducible refine LeO.bind ?_ (fun _ => ?_))
   | exact ih0 _ _ _ _ _ _
   | exact ih1 _ _ _ _ _ _ _
   | exact LeO.none _
   | refine LeO.ite ?_ ?_
   | refine LeO.bind ?_ (fun _ => ?_)
  intro y0 y1 y2 y3 y4 y5 y6
  unfold lockgateref02_Width.l1
  repeat' first
  | (with_reducible exact ih0 _ _ _ _ _ _)
  | (with_reducible exact ih1 _ _ _ _ _ _ _)
  | (with_reducible exact LeO.refl _)
  | (with_reducible exact LeO.none _)
  | (with_reducible refine LeO.ite ?_ ?_)
  | (with_reducible refine LeO.bind ?_ (fun _ => ?_))
  | exact ih0 _ _ _ _ _ _
  | exact ih1 _ _ _ _ _ _ _
  | exact LeO.none _
  | refine LeO.ite ?_ ?_
  | refine LeO.bind ?_ (fun _ => ?_)
theorem lockgateref02_Width.mono : ∀ a0 a1 a2 a3 a4 k, LeO (lockgateref02_Width.f k a0 a1 a2 a3 a4) (lockgateref02_Width.f (k + 1) a0 a1 a2 a3 a4) := by
 intro a0 a1 a2 a3 a4 k
 obtain ⟨ih0, ih1⟩ := lockgateref02_Width.mono_l k
 unfold lockgateref02_Width.f
 repeat' first
  | (with_reducible exact ih0 _ _ _ _ _ _)
  | (with_reducible exact ih1 _ _ _ _ _ _ _)
  | (with_reducible exact LeO.refl _)
  | (with_reducible exact LeO.none _)
  | (with_reducible refine LeO.ite ?_ ?_)
  | (with_reducible refine LeO.bind ?_ (fun _ => ?_))
  | exact ih0 _ _ _ _ _ _
  | exact ih1 _ _ _ _ _ _ _
  | exact LeO.none _
  | refine LeO.ite ?_ ?_
  | refine LeO.bind ?_ (fun _ => ?_)
set_option maxHeartbeats 8000000 in
set_option maxRecDepth 100000 in
theorem lockgateref02_Width.calls (k : Nat) (a0_0 : Int) (a0_1 : Int) (a0_2 : Int) (a0_3 : Int) (a0_4 : Int) (r : Int) (w : World) (h : lockgateref02_Width.f k a0_0 a0_1 a0_2 a0_3 a0_4 = some r) :
 Calls Try.prog 31 #[.agg #[.int .i64 a0_0, .int .i64 a0_1, .int .i64 a0_2, .int .i64 a0_3, .int .i64 a0_4]] w fun e w' => e = .returned (.int .i64 r) ∧ Below w.heap.size w w' := by
 have hu40 := Try.underlying40
 have HB := Aside0.mk (Below.refl w.heap.size w)
 have H : (lockgateref02_Width.l0 k 0 a0_0 a0_1 a0_2 a0_3 a0_4) = some r := h
 clear h
 have H' := Aside0.mk H
 clear H
 go_enter Try.func31, Try.ntmps31
 go_wp2_with (first | ((with_reducible refine gate_dst (N := 1) rfl ?_); refine bx_ 1 #[.int .i64 a0_0, .int .i64 a0_1, .int .i64 a0_2, .int .i64 a0_3, .int .i64 a0_4] 40 ?_; intro gb521 hg w2 BK521 hb; have GW521 := bg_ hg; have GE521 := GW521; replace HB := bl_ hb; clear hb hg))
 go_loopg [3] k (fun kq v3 w' => ∃ (x3_1 : Int), v3 = .int .i64 x3_1 ∧ Aside0 (lockgateref02_Width.l0 kq x3_1 a0_0 a0_1 a0_2 a0_3 a0_4 = some r) ∧ Aside0 (kq ≤ k) ∧ Aside0 (w'.heap[gb521]? = some (.cells #[.int .i64 a0_0, .int .i64 a0_1, .int .i64 a0_2, .int .i64 a0_3, .int .i64 a0_4] 40 (0, 0))) ∧ Aside0 (Below w.heap.size w w'))
 case atStart => exact ⟨(0), vs_, H', ⟨Nat.le_refl _⟩, ⟨bk_⟩, ⟨bz_⟩⟩
 case round =>
  clear H'
  try clear p2
  obtain ⟨x3_1, rfl, HA, HK1, BK521, HB⟩ := hrel
  cases gk with
  | zero => exact absurd HA.out (by simp [lockgateref02_Width.l0])
  | succ k1 =>
   have H := HA.out
   clear HA
   simp only [lockgateref02_Width.l0] at H
   by_cases c3 : x3_1 < 4
   rotate_left
   ·rw [if_neg c3] at H
    have c3b0 : decide (x3_1 < 4) = false := decide_eq_false c3
    clear c3
    obtain rfl := Option.some.inj H
    go_wp2
    go_ret
    exact ⟨vv_, bz_⟩
   rw [if_pos c3] at H
   have c3b0 : decide (x3_1 < 4) = true := decide_eq_true c3
   clear c3
   have H' := Aside0.mk H
   clear H
   go_wp2
   go_loopg [4] k1 (fun kq v4 w' => ∃ (x4_2 : Int), v4 = .int .i64 x4_2 ∧ Aside0 (lockgateref02_Width.l1 kq x3_1 x4_2 a0_0 a0_1 a0_2 a0_3 a0_4 = some r) ∧ Aside0 (kq ≤ k1) ∧ Aside0 (w'.heap[gb521]? = some (.cells #[.int .i64 a0_0, .int .i64 a0_1, .int .i64 a0_2, .int .i64 a0_3, .int .i64 a0_4] 40 (0, 0))) ∧ Aside0 (Below w.heap.size w w'))
   case atStart => exact ⟨(1), vs_, H', ⟨Nat.le_refl _⟩, ⟨bk_⟩, ⟨bz_⟩⟩
   case round =>
    clear H'
    try clear p2
    try clear c3
    try clear c3b0
    try clear p2
    obtain ⟨x4_2, rfl, HA, HK2, BK521, HB⟩ := hrel
    cases gk with
    | zero => exact absurd HA.out (by simp [lockgateref02_Width.l1])
    | succ k2 =>
     have H := HA.out
     clear HA
     simp only [lockgateref02_Width.l1] at H
     by_cases c4 : x4_2 ≤ 3
     rotate_left
     ·rw [if_neg c4] at H
      have c4b0 : decide (x4_2 ≤ 3) = false := decide_eq_false c4
      clear c4
      have H' := Aside0.mk H
      clear H
      go_wp2
      go_roundg k2
      case measure => have := HK1.out; have := HK2.out; omega
      case rel => exact ⟨(wrap64 (x3_1 + 1)), vs_, H', ⟨by have := HK1.out; have := HK2.out; omega⟩, ⟨bk_⟩, ⟨bz_⟩⟩
     rw [if_pos c4] at H
     have c4b0 : decide (x4_2 ≤ 3) = true := decide_eq_true c4
     clear c4
     by_cases c5 : a0_0 = (wrap64 ((wrap64 (96 + (wrap64 (8 * x3_1)))) + x4_2))
     ·rw [if_pos c5] at H
      have c5b0 : (a0_0 == (wrap64 ((wrap64 (96 + (wrap64 (8 * x3_1)))) + x4_2))) = true := beq_iff_eq.mpr c5
      have c5b1 : (a0_0 != (wrap64 ((wrap64 (96 + (wrap64 (8 * x3_1)))) + x4_2))) = false := bne_eq_false_iff_eq.mpr c5
      clear c5
      obtain ⟨y522, hy522⟩ : ∃ Y : List Int, Y = (([4, 2, 1, 8] : List Int)) := ⟨_, rfl⟩
      replace H : (if 0 ≤ x3_1 then (if x3_1 < (y522.length : Int) then (some (rd y522 x3_1)) else (none)) else (none)) = some r := by first | (rw [hy522]; with_reducible exact H) | (have H2_ := (Option.bind_some _ _).symm.trans H; rw [hy522]; with_reducible exact H2_) | (have H2_ := (Option.bind_some _ _).symm.trans H; with_reducible exact H2_) | with_reducible exact H | (rw [hy522]; exact H) | exact H
      have Ny522 := Aside0.mk hy522
      clear hy522
      by_cases c6 : 0 ≤ x3_1
      ·rw [if_pos c6] at H
       have c6b0 : decide (0 ≤ x3_1) = true := decide_eq_true c6
       clear c6
       by_cases c7 : x3_1 < (y522.length : Int)
       ·rw [if_pos c7] at H
        have c7b0 : decide (x3_1 < (y522.length : Int)) = true := decide_eq_true c7
        clear c7
        obtain rfl := Option.some.inj H
        obtain ⟨zc8_0, zc8_1, zc8_2, zc8_3, zc8_4, zf8_0, zf8_1, zf8_2, zf8_3, zf8_4⟩ := k5_ BK521
        go_wp2_with (first | ((with_reducible refine gate_dst (N := 21) rfl ?_); refine Kd.R_lit (Kd.int .i64) _ 3 ?hg (N := 21) ?hd (xs := ([4, 2, 1, 8] : List Int)) (inner := [.int .i64 4, .int .i64 2, .int .i64 1, .int .i64 8]) (ok := fun _ => True) (okp := fun _ => True) ?hr ?hp (fun _ hk => hk) trivial (Below.refl _ _) (Nat.le_refl _) (by simp) ?_; (case hd => rfl); (case hg => rfl); (case hr => first | (go_simp; done) | (go_simp; rfl)); (case hp => exact (Reps.one (show Kd.M (Kd.int .i64) _ _ _ 4 [.int .i64 4] from rfl) (Reps.one (show Kd.M (Kd.int .i64) _ _ _ 2 [.int .i64 2] from rfl) (Reps.one (show Kd.M (Kd.int .i64) _ _ _ 1 [.int .i64 1] from rfl) (Reps.one (show Kd.M (Kd.int .i64) _ _ _ 8 [.int .i64 8] from rfl) (Reps.none _ _)))))); intro v523 w9 ho10 hb hg_ hnew_; clear hg_ hnew_; (first | rw [← Ny522.out] at ho10 | (simp only [Int.reduceToNat] at ho10; rw [← Ny522.out] at ho10)); have HO524 := Aside0.mk (Kd.R_lower ho10 (below_size bz_)); replace BK521 := bb_ hb BK521; replace HB := bl_ hb; clear hb ho10; obtain ⟨Ao11, co11, eo11⟩ := Kd.R_slice HO524.out; subst eo11; have p525 : 0 ≤ (x3_1 : Int) := of_decide_eq_true as_; have q525 : x3_1 < (y522.length : Int) := of_decide_eq_true as_; obtain ⟨ad525, e525, hx525_0⟩ := Kd.at_int (Kd.R_reads' HO524.out).2.2 x3_1 p525 q525; cases e525; replace p525 := eq_true p525; replace q525 := eq_true q525))
        go_ret
        exact ⟨vv_, bz_⟩
       rw [if_neg c7] at H
       exact absurd H (by simp)
      rw [if_neg c6] at H
      exact absurd H (by simp)
     rw [if_neg c5] at H
     have c5b0 : (a0_0 == (wrap64 ((wrap64 (96 + (wrap64 (8 * x3_1)))) + x4_2))) = false := beq_eq_false_iff_ne.mpr c5
     have c5b1 : (a0_0 != (wrap64 ((wrap64 (96 + (wrap64 (8 * x3_1)))) + x4_2))) = true := bne_iff_ne.mpr c5
     have H' := Aside0.mk H
     clear H
     obtain ⟨zc12_0, zc12_1, zc12_2, zc12_3, zc12_4, zf12_0, zf12_1, zf12_2, zf12_3, zf12_4⟩ := k5_ BK521
     go_wp2
     go_roundg k2
     case measure => have := HK1.out; have := HK2.out; omega
     case rel => exact ⟨(wrap64 (x4_2 + 1)), vs_, H', ⟨by have := HK1.out; have := HK2.out; omega⟩, ⟨bk_⟩, ⟨bz_⟩⟩
end Go.Proofs.Yticijjonimiooaa.PA
