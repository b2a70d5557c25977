-- PRINTED by print.py (a twelfth state) out of the translation. Not trusted: Lean checks it.
import Derived.Test.YtnpbhippkcikoaaPA0
import Derived.Test.YtnpbhippkcikoaaSq
import Derived.Test.YtnpbhippkcikoaaPA11
namespace Go.Proofs.Ytnpbhippkcikoaa.PA
open Go.RowKit Go.Proofs.YtnpbhippkcikoaaW.PrintWords Go.Proofs.YtnpbhippkcikoaaW.PrintLast Go.Proofs.YtnpbhippkcikoaaW.PrintMore
attribute [local go_sem] max2_int min2_int max_two min_two max_three min_three max_four min_four   -- for this text's walks alone
set_option linter.unusedVariables false
set_option linter.unusedSimpArgs false

/-! ### lockgateref14_Code: function 18 -/
def lockgateref14_Code.f (a0 : Int) : Option (Int × Int × Int) := (lockgateref14_Num.f (IntKind.u64.wrap (-(IntKind.u64.wrap (a0))))).bind fun bt203 => (some (bt203.1, bt203.2.1, bt203.2.2))
set_option maxHeartbeats 8000000 in
set_option maxRecDepth 100000 in
theorem lockgateref14_Code.calls (a0 : Int) (r1 : Int) (r2 : Int) (r3 : Int) (w : World) (h : lockgateref14_Code.f a0 = some (r1, r2, r3)) :
 Calls Try.prog 18 #[.int .i64 a0] w fun e w' => e = .returned (.agg #[.int .i64 r1, .int .u64 r2, .int .i64 r3]) ∧ Below w.heap.size w w' := by
 have hu24 := Try.underlying24
 have HB := Aside0.mk (Below.refl w.heap.size w)
 have H : ((lockgateref14_Num.f (IntKind.u64.wrap (-(IntKind.u64.wrap (a0))))).bind fun bt203 => (some (bt203.1, bt203.2.1, bt203.2.2))) = some (r1, r2, r3) := h
 clear h
 replace H := Option.bind_eq_some_iff.mp H
 obtain ⟨⟨t203, t204, t205⟩, A20, H⟩ := H
 replace H : (some (t203, t204, t205)) = some (r1, r2, r3) := H
 have A2 := Aside0.mk A20
 clear A20
 simp only [Option.some.injEq, Prod.mk.injEq] at H
 obtain ⟨rfl, rfl, rfl⟩ := H
 go_enter Try.func18, Try.ntmps18
 go_wp2_with (first | ((with_reducible refine gate_dst (N := 2) rfl ?_); refine bx_ 2 #[.int .i64 0, .int .u64 0, .int .i64 0] 24 ?_; intro gb202 hg w3 BK202 hb; have GW202 := bg_ hg; have GE202 := GW202; replace HB := bl_ hb; clear hb hg) | ((with_reducible refine gate_callee (f := 16) rfl ?_); refine goesL_ (some 6) rfl rfl Try.func16 (by kernel_rfl) rfl #[.int .u64 (IntKind.u64.wrap (-(IntKind.u64.wrap (a0))))] rfl mp_ ?_; (with_reducible refine (lockgateref14_Num.calls (IntKind.u64.wrap (-(IntKind.u64.wrap (a0)))) t203 t204 t205 _ A2.out).mono ?_); rintro e w4 ⟨rfl, hb⟩; refine ⟨_, rfl, ?_⟩; replace BK202 := bb_ hb BK202; replace HB := bl_ hb; (try clear hb); (try clear hb2); (try clear hk); (try clear hi); obtain ⟨zc5_0, zc5_1, zc5_2, zf5_0, zf5_1, zf5_2⟩ := k3_ BK202))
 refine bodyPost_ret (results_cell_row rfl _ _ gb202 24 #[.int .i64 t203, .int .u64 t204, .int .i64 t205] (0, 0) _ rfl (by (with_reducible repeat (first | apply bN_ | apply bD_ | apply bA_)); refine blk_put (cs := #[.int .i64 t203, .int .u64 t204, .int .i64 0]) ?_ 2 _ rfl; (with_reducible repeat (first | apply bN_ | apply bD_ | apply bA_)); refine blk_put (cs := #[.int .i64 t203, .int .u64 0, .int .i64 0]) ?_ 1 _ rfl; (with_reducible repeat (first | apply bN_ | apply bD_ | apply bA_)); refine blk_put (cs := #[.int .i64 0, .int .u64 0, .int .i64 0]) ?_ 0 _ rfl; exact bk_) Try.underlying24 rfl (by kernel_rfl)) rfl ?_
 exact ⟨vv_, bz_⟩

/-! ### lockgateref01_order: function 47 -/
mutual
def lockgateref01_order.l0 : Nat → Int → Int → Int → Bool → Int → Option (Int)
 | 0, _, _, _, _, _ => none
 | k + 1, x0, x1, x2, x3, x9 => if x9 ≥ 0 then ((lockgateref01_bit.f x0 x9).bind fun t278 => ((lockgateref01_bit.f x1 x9).bind fun t279 => (if t278 = t279 then (lockgateref01_order.l0 k x0 x1 x2 x3 (wrap64 (x9 - 1))) else (if x3 = true then (lockgateref01_order.j1 k (decide (t278 > t279)) (x9 == (wrap64 (x2 - 1)))) else (lockgateref01_order.j1 k (decide (t278 > t279)) false))))) else (some 0)
def lockgateref01_order.j1 : Nat → Bool → Bool → Option (Int)
 | 0, _, _ => none
 | k + 1, x12, x37 => if x37 = true then (if x12 = true then (some (-1)) else (some 1)) else (if x12 = true then (some 1) else (some (-1)))
end
def lockgateref01_order.f (k : Nat) (a0 : Int) (a1 : Int) (a2 : Int) (a3 : Bool) : Option (Int) := lockgateref01_order.l0 k a0 a1 a2 a3 (wrap64 (a2 - 1))
theorem lockgateref01_order.mono_l : ∀ k, (∀ y0 y1 y2 y3 y4, LeO (lockgateref01_order.l0 k y0 y1 y2 y3 y4) (lockgateref01_order.l0 (k + 1) y0 y1 y2 y3 y4)) ∧ (∀ y0 y1, LeO (lockgateref01_order.j1 k y0 y1) (lockgateref01_order.j1 (k + 1) y0 y1))
 | 0 => ⟨fun _ _ _ _ _ r h => by simp [lockgateref01_order.l0] at h, fun _ _ r h => by simp [lockgateref01_order.j1] at h⟩
 | k + 1 => by
  obtain ⟨ih0, ih1⟩ := lockgateref01_order.mono_l k
  refine ⟨?_, ?_⟩
  ·intro y0 y1 y2 y3 y4
   unfold lockgateref01_order.l0
   repeat' first
   | (with_reducible exact ih0 _ _ _ _ _)
   | (with_reducible exact ih1 _ _)
   | (with_reducible exact LeO.refl _)
   | (with_reducible exact LeO.none _)
   | (with_reducible refine LeO.ite ?_ ?_)
   | (with_reducible refine LeO.bind ?_ (fun _ => ?_))
   | exact ih0 _ _ _ _ _
   | exact ih1 _ _
   | exact LeO.none _
   | refine LeO.ite ?_ ?_
   | refine LeO.bind ?_ (fun _ => ?_)
  ·intro y0 y1
   unfold lockgateref01_order.j1
   repeat' first
   | (with_reducible exact ih0 _ _ _ _ _)
   | (with_reducible exact ih1 _ _)
   | (with_reducible exact LeO.refl _)
   | (with_reducible exact LeO.none _)
   | (with_reducible refine LeO.ite ?_ ?_)
   | (with_reducible refine LeO.bind ?_ (fun _ => ?_))
   | exact ih0 _ _ _ _ _
   | exact ih1 _ _
   | exact LeO.none _
   | refine LeO.ite ?_ ?_
   | refine LeO.bind ?_ (fun _ => ?_)
theorem lockgateref01_order.mono : ∀ a0 a1 a2 a3 k, LeO (lockgateref01_order.f k a0 a1 a2 a3) (lockgateref01_order.f (k + 1) a0 a1 a2 a3) := by
 intro a0 a1 a2 a3 k
 obtain ⟨ih0, ih1⟩ := lockgateref01_order.mono_l k
 unfold lockgateref01_order.f
 repeat' first
  | (with_reducible exact ih0 _ _ _ _ _)
  | (with_reducible exact ih1 _ _)
  | (with_reducible exact LeO.refl _)
  | (with_reducible exact LeO.none _)
  | (with_reducible refine LeO.ite ?_ ?_)
  | (with_reducible refine LeO.bind ?_ (fun _ => ?_))
  | exact ih0 _ _ _ _ _
  | exact ih1 _ _
  | exact LeO.none _
  | refine LeO.ite ?_ ?_
  | refine LeO.bind ?_ (fun _ => ?_)
set_option maxHeartbeats 8000000 in
set_option maxRecDepth 100000 in
theorem lockgateref01_order.calls (k : Nat) (a0 : Int) (a1 : Int) (a2 : Int) (a3 : Bool) (r : Int) (w : World) (h : lockgateref01_order.f k a0 a1 a2 a3 = some r) :
 Calls Try.prog 47 #[.int .u64 a0, .int .u64 a1, .int .i64 a2, .bool a3] w fun e w' => e = .returned (.int .i64 r) ∧ Drawn0 w w' := by
 have H : (lockgateref01_order.l0 k a0 a1 a2 a3 (wrap64 (a2 - 1))) = some r := h
 clear h
 have H' := Aside0.mk H
 clear H
 go_enter Try.func47, Try.ntmps47
 go_wp2
 go_loopg [9] k (fun kq v9 w' => ∃ (x9_1 : Int), v9 = .int .i64 x9_1 ∧ Aside0 (lockgateref01_order.l0 kq a0 a1 a2 a3 x9_1 = some r) ∧ Aside0 (kq ≤ k) ∧ Drawn0 w w')
 case atStart => exact ⟨(wrap64 (a2 - 1)), (by first | rfl | (simp; done) | (simp [*]; done)), H', ⟨Nat.le_refl _⟩, by repeat (first | exact Drawn0.refl _ | apply Drawn0.step)⟩
 case round =>
  clear H'
  try clear p2
  try clear c4
  obtain ⟨x9_1, rfl, HA, HK1, ⟨m1, rfl⟩⟩ := hrel
  cases gk with
  | zero => exact absurd HA.out (by simp [lockgateref01_order.l0])
  | succ k1 =>
   have H := HA.out
   clear HA
   simp only [lockgateref01_order.l0] at H
   by_cases c5 : x9_1 ≥ 0
   ·rw [if_pos c5] at H
    have c5b0 : decide (0 ≤ x9_1) = true := decide_eq_true c5
    clear c5
    replace H := Option.bind_eq_some_iff.mp H
    obtain ⟨t278, A60, H⟩ := H
    replace H : ((lockgateref01_bit.f a1 x9_1).bind fun t279 => (if t278 = t279 then (lockgateref01_order.l0 k1 a0 a1 a2 a3 (wrap64 (x9_1 - 1))) else (if a3 = true then (lockgateref01_order.j1 k1 (decide (t278 > t279)) (x9_1 == (wrap64 (a2 - 1)))) else (lockgateref01_order.j1 k1 (decide (t278 > t279)) false)))) = some r := H
    have A6 := Aside0.mk A60
    clear A60
    replace H := Option.bind_eq_some_iff.mp H
    obtain ⟨t279, A70, H⟩ := H
    replace H : (if t278 = t279 then (lockgateref01_order.l0 k1 a0 a1 a2 a3 (wrap64 (x9_1 - 1))) else (if a3 = true then (lockgateref01_order.j1 k1 (decide (t278 > t279)) (x9_1 == (wrap64 (a2 - 1)))) else (lockgateref01_order.j1 k1 (decide (t278 > t279)) false))) = some r := H
    have A7 := Aside0.mk A70
    clear A70
    by_cases c8 : t278 = t279
    ·rw [if_pos c8] at H
     have c8b0 : (t278 == t279) = true := beq_iff_eq.mpr c8
     have c8b1 : (t278 != t279) = false := bne_eq_false_iff_eq.mpr c8
     clear c8
     have H' := Aside0.mk H
     clear H
     go_wp2_with (first | ((with_reducible refine gate_callee (f := 46) rfl ?_); refine gM_ 21 Try.func46 (lockgateref01_bit.calls a0 x9_1 t278 _ A6.out) ?_; rintro w' ⟨nd, rfl⟩) | ((with_reducible refine gate_callee (f := 46) rfl ?_); refine gM_ 24 Try.func46 (lockgateref01_bit.calls a1 x9_1 t279 _ A7.out) ?_; rintro w' ⟨nd, rfl⟩))
     go_roundg k1
     case measure => have := HK1.out; omega
     case rel => exact ⟨(wrap64 (x9_1 - 1)), (by first | rfl | (simp; done) | (simp [*]; done)), H', ⟨by have := HK1.out; omega⟩, by repeat (first | exact Drawn0.refl _ | apply Drawn0.step)⟩
    ·rw [if_neg c8] at H
     have c8b0 : (t278 == t279) = false := beq_eq_false_iff_ne.mpr c8
     have c8b1 : (t278 != t279) = true := bne_iff_ne.mpr c8
     have HC9 := Aside0.mk H
     clear H
     go_upto_region 8 with (first | ((with_reducible refine gate_callee (f := 46) rfl ?_); refine gM_ 21 Try.func46 (lockgateref01_bit.calls a0 x9_1 t278 _ A6.out) ?_; rintro w' ⟨nd, rfl⟩) | ((with_reducible refine gate_callee (f := 46) rfl ?_); refine gM_ 24 Try.func46 (lockgateref01_bit.calls a1 x9_1 t279 _ A7.out) ?_; rintro w' ⟨nd, rfl⟩))
     (try simp only [Act.put, s1_, s2_, s3_])
     go_cut [37] (fun v37 wc => ∃ (kq : Nat) (x37_8 : Bool), v37 = .bool x37_8 ∧ Aside0 (lockgateref01_order.j1 kq (decide (t278 > t279)) x37_8 = some r) ∧ Aside0 (kq ≤ k1) ∧ Drawn0 w wc)
     case first =>
      have H := HC9.out
      clear HC9
      by_cases c10 : a3 = true
      ·subst c10
       have H1 : (lockgateref01_order.j1 k1 (decide (t278 > t279)) (x9_1 == (wrap64 (a2 - 1)))) = some r := by rw [if_pos rfl] at H; exact H
       clear H
       have H := H1
       clear H1
       have H' := Aside0.mk H
       clear H
       go_wp2
       go_meet
       case rel => exact ⟨_, ((x9_1 == (wrap64 (a2 - 1)))), (by first | rfl | (simp; done) | (simp [*]; done)), H', ⟨by have := HK1.out; first | omega | exact Nat.le_refl _⟩, by repeat (first | exact Drawn0.refl _ | apply Drawn0.step)⟩
      ·replace c10 := Bool.eq_false_iff.mpr c10
       subst c10
       have H1 : (lockgateref01_order.j1 k1 (decide (t278 > t279)) false) = some r := by rw [if_neg (show ¬ (false = true) by decide)] at H; exact H
       clear H
       have H := H1
       clear H1
       have H' := Aside0.mk H
       clear H
       go_wp2
       go_meet
       case rel => exact ⟨_, (false), (by first | rfl | (simp; done) | (simp [*]; done)), H', ⟨by have := HK1.out; first | omega | exact Nat.le_refl _⟩, by repeat (first | exact Drawn0.refl _ | apply Drawn0.step)⟩
     case rest =>
      clear HC9
      try clear c1
      try clear p2
      try clear c4
      try clear c5
      try clear c5b0
      try clear p6
      try clear c8
      try clear c8b0
      try clear c8b1
      try clear c10
      try clear p2
      obtain ⟨kq, x37_8, rfl, HA, HJ8, ⟨mc8, rfl⟩⟩ := hcut
      cases kq with
      | zero => exact absurd HA.out (by simp [lockgateref01_order.j1])
      | succ kj8 =>
       have H := HA.out
       clear HA
       simp only [lockgateref01_order.j1] at H
       by_cases c11 : x37_8 = true
       ·subst c11
        have H1 : (if (decide (t278 > t279)) = true then (some (-1)) else (some 1)) = some r := by rw [if_pos rfl] at H; exact H
        clear H
        have H := H1
        clear H1
        by_cases c12 : (decide (t278 > t279)) = true
        ·rw [if_pos c12] at H
         (try (have c12b0 : (t279 < t278) := by simpa using c12))
         (try (have c12b1 : decide (t279 < t278) = true := by simpa using c12))
         have c12b2 : (decide (t278 > t279)) = true := c12
         clear c12
         obtain rfl := Option.some.inj H
         go_wp2
         go_ret
         exact ⟨by first | rfl | (simp; done) | (simp [*]; done), by repeat (first | exact Drawn0.refl _ | apply Drawn0.step)⟩
        ·rw [if_neg c12] at H
         (try (have c12b0 : ¬ (t279 < t278) := by simpa using c12))
         (try (have c12b1 : decide (t279 < t278) = false := by simpa using c12))
         have c12b2 : (decide (t278 > t279)) = false := by simpa using c12
         clear c12
         obtain rfl := Option.some.inj H
         go_wp2
         go_ret
         exact ⟨by first | rfl | (simp; done) | (simp [*]; done), by repeat (first | exact Drawn0.refl _ | apply Drawn0.step)⟩
       ·replace c11 := Bool.eq_false_iff.mpr c11
        subst c11
        have H1 : (if (decide (t278 > t279)) = true then (some 1) else (some (-1))) = some r := by rw [if_neg (show ¬ (false = true) by decide)] at H; exact H
        clear H
        have H := H1
        clear H1
        by_cases c13 : (decide (t278 > t279)) = true
        ·rw [if_pos c13] at H
         (try (have c13b0 : (t279 < t278) := by simpa using c13))
         (try (have c13b1 : decide (t279 < t278) = true := by simpa using c13))
         have c13b2 : (decide (t278 > t279)) = true := c13
         clear c13
         obtain rfl := Option.some.inj H
         go_wp2
         go_ret
         exact ⟨by first | rfl | (simp; done) | (simp [*]; done), by repeat (first | exact Drawn0.refl _ | apply Drawn0.step)⟩
        ·rw [if_neg c13] at H
         (try (have c13b0 : ¬ (t279 < t278) := by simpa using c13))
         (try (have c13b1 : decide (t279 < t278) = false := by simpa using c13))
         have c13b2 : (decide (t278 > t279)) = false := by simpa using c13
         clear c13
         obtain rfl := Option.some.inj H
         go_wp2
         go_ret
         exact ⟨by first | rfl | (simp; done) | (simp [*]; done), by repeat (first | exact Drawn0.refl _ | apply Drawn0.step)⟩
   ·rw [if_neg c5] at H
    have c5b0 : decide (0 ≤ x9_1) = false := decide_eq_false c5
    clear c5
    obtain rfl := Option.some.inj H
    go_wp2
    go_ret
    exact ⟨by first | rfl | (simp; done) | (simp [*]; done), by repeat (first | exact Drawn0.refl _ | apply Drawn0.step)⟩

end Go.Proofs.Ytnpbhippkcikoaa.PA
