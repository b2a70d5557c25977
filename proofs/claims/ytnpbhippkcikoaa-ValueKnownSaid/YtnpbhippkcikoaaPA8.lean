-- PRINTED by print.py (a twelfth state) out of the translation. Not trusted: Lean checks it.
import Derived.Test.YtnpbhippkcikoaaPA0
import Derived.Test.YtnpbhippkcikoaaSq
import Derived.Test.YtnpbhippkcikoaaPA3
namespace Go.Proofs.Ytnpbhippkcikoaa.PA
open Go.RowKit Go.Proofs.YtnpbhippkcikoaaW.PrintWords Go.Proofs.YtnpbhippkcikoaaW.PrintLast Go.Proofs.YtnpbhippkcikoaaW.PrintMore
attribute [local go_sem] max2_int min2_int max_two min_two max_three min_three max_four min_four   -- for this text's walks alone
set_option linter.unusedVariables false
set_option linter.unusedSimpArgs false

/-! ### value_Code: function 17 -/
def value_Code.f (a0 : Int) : Option (Int × Int × Int) := (value_Num.f (IntKind.u64.wrap (wrap64 (-a0)))).bind fun bt199 => (some (bt199.1, bt199.2.1, bt199.2.2))
set_option maxHeartbeats 8000000 in
set_option maxRecDepth 100000 in
theorem value_Code.calls (a0 : Int) (r1 : Int) (r2 : Int) (r3 : Int) (w : World) (h : value_Code.f a0 = some (r1, r2, r3)) :
 Calls Try.prog 17 #[.int .i64 a0] w fun e w' => e = .returned (.agg #[.int .i64 r1, .int .u64 r2, .int .i64 r3]) ∧ Below w.heap.size w w' := by
 have hu24 := Try.underlying24
 have HB := Aside0.mk (Below.refl w.heap.size w)
 have H : ((value_Num.f (IntKind.u64.wrap (wrap64 (-a0)))).bind fun bt199 => (some (bt199.1, bt199.2.1, bt199.2.2))) = some (r1, r2, r3) := h
 clear h
 replace H := Option.bind_eq_some_iff.mp H
 obtain ⟨⟨t199, t200, t201⟩, A20, H⟩ := H
 replace H : (some (t199, t200, t201)) = some (r1, r2, r3) := H
 have A2 := Aside0.mk A20
 clear A20
 simp only [Option.some.injEq, Prod.mk.injEq] at H
 obtain ⟨rfl, rfl, rfl⟩ := H
 go_enter Try.func17, Try.ntmps17
 go_wp2_with (first | ((with_reducible refine gate_dst (N := 2) rfl ?_); refine bx_ 2 #[.int .i64 0, .int .u64 0, .int .i64 0] 24 ?_; intro gb198 hg w3 BK198 hb; have GW198 := bg_ hg; have GE198 := GW198; replace HB := bl_ hb; clear hb hg) | ((with_reducible refine gate_callee (f := 15) rfl ?_); refine gM_ 6 Try.func15 (value_Num.calls (IntKind.u64.wrap (wrap64 (-a0))) t199 t200 t201 _ A2.out) ?_; intro w4 hb; replace BK198 := bb_ hb BK198; replace HB := bl_ hb; (try clear hb); (try clear hb2); (try clear hk); (try clear hi); obtain ⟨zc5_0, zc5_1, zc5_2, zf5_0, zf5_1, zf5_2⟩ := k3_ BK198))
 refine bodyPost_ret (results_cell_row rfl _ _ gb198 24 #[.int .i64 t199, .int .u64 t200, .int .i64 t201] (0, 0) _ rfl (by (with_reducible repeat (first | apply bN_ | apply bD_ | apply bA_)); refine blk_put (cs := #[.int .i64 t199, .int .u64 t200, .int .i64 0]) ?_ 2 _ rfl; (with_reducible repeat (first | apply bN_ | apply bD_ | apply bA_)); refine blk_put (cs := #[.int .i64 t199, .int .u64 0, .int .i64 0]) ?_ 1 _ rfl; (with_reducible repeat (first | apply bN_ | apply bD_ | apply bA_)); refine blk_put (cs := #[.int .i64 0, .int .u64 0, .int .i64 0]) ?_ 0 _ rfl; exact bk_) Try.underlying24 rfl (by kernel_rfl)) rfl ?_
 exact ⟨vv_, bz_⟩

/-! ### word_order_uint64: function 36 -/
def word_order_uint64.f (a0 : Int) (a1 : Int) : Option (Int) := if a0 < a1 then (some (-1)) else (if a0 > a1 then (some 1) else (some 0))
set_option maxHeartbeats 8000000 in
set_option maxRecDepth 100000 in
theorem word_order_uint64.calls (a0 : Int) (a1 : Int) (r : Int) (w : World) (h : word_order_uint64.f a0 a1 = some r) :
 Calls Try.prog 36 #[.int .u64 a0, .int .u64 a1] w fun e w' => e = .returned (.int .i64 r) ∧ Drawn0 w w' := by
 have H : (if a0 < a1 then (some (-1)) else (if a0 > a1 then (some 1) else (some 0))) = some r := h
 clear h
 by_cases c3 : a0 < a1
 ·rw [if_pos c3] at H
  have c3b0 : decide (a0 < a1) = true := decide_eq_true c3
  clear c3
  obtain rfl := Option.some.inj H
  go_enter Try.func36, Try.ntmps36
  go_wp2
  go_ret
  exact ⟨by first | rfl | (simp; done) | (simp [*]; done), by repeat (first | exact Drawn0.refl _ | apply Drawn0.step)⟩
 ·rw [if_neg c3] at H
  have c3b0 : decide (a0 < a1) = false := decide_eq_false c3
  clear c3
  by_cases c4 : a0 > a1
  ·rw [if_pos c4] at H
   have c4b0 : decide (a1 < a0) = true := decide_eq_true c4
   clear c4
   obtain rfl := Option.some.inj H
   go_enter Try.func36, Try.ntmps36
   go_wp2
   go_ret
   exact ⟨by first | rfl | (simp; done) | (simp [*]; done), by repeat (first | exact Drawn0.refl _ | apply Drawn0.step)⟩
  ·rw [if_neg c4] at H
   have c4b0 : decide (a1 < a0) = false := decide_eq_false c4
   clear c4
   obtain rfl := Option.some.inj H
   go_enter Try.func36, Try.ntmps36
   go_wp2
   go_ret
   exact ⟨by first | rfl | (simp; done) | (simp [*]; done), by repeat (first | exact Drawn0.refl _ | apply Drawn0.step)⟩

/-! ### word_order_int64: function 37 -/
def word_order_int64.f (a0 : Int) (a1 : Int) : Option (Int) := if a0 < a1 then (some (-1)) else (if a0 > a1 then (some 1) else (some 0))
set_option maxHeartbeats 8000000 in
set_option maxRecDepth 100000 in
theorem word_order_int64.calls (a0 : Int) (a1 : Int) (r : Int) (w : World) (h : word_order_int64.f a0 a1 = some r) :
 Calls Try.prog 37 #[.int .i64 a0, .int .i64 a1] w fun e w' => e = .returned (.int .i64 r) ∧ Drawn0 w w' := by
 have H : (if a0 < a1 then (some (-1)) else (if a0 > a1 then (some 1) else (some 0))) = some r := h
 clear h
 by_cases c3 : a0 < a1
 ·rw [if_pos c3] at H
  have c3b0 : decide (a0 < a1) = true := decide_eq_true c3
  clear c3
  obtain rfl := Option.some.inj H
  go_enter Try.func37, Try.ntmps37
  go_wp2
  go_ret
  exact ⟨by first | rfl | (simp; done) | (simp [*]; done), by repeat (first | exact Drawn0.refl _ | apply Drawn0.step)⟩
 ·rw [if_neg c3] at H
  have c3b0 : decide (a0 < a1) = false := decide_eq_false c3
  clear c3
  by_cases c4 : a0 > a1
  ·rw [if_pos c4] at H
   have c4b0 : decide (a1 < a0) = true := decide_eq_true c4
   clear c4
   obtain rfl := Option.some.inj H
   go_enter Try.func37, Try.ntmps37
   go_wp2
   go_ret
   exact ⟨by first | rfl | (simp; done) | (simp [*]; done), by repeat (first | exact Drawn0.refl _ | apply Drawn0.step)⟩
  ·rw [if_neg c4] at H
   have c4b0 : decide (a1 < a0) = false := decide_eq_false c4
   clear c4
   obtain rfl := Option.some.inj H
   go_enter Try.func37, Try.ntmps37
   go_wp2
   go_ret
   exact ⟨by first | rfl | (simp; done) | (simp [*]; done), by repeat (first | exact Drawn0.refl _ | apply Drawn0.step)⟩

/-! ### word_Jump: function 25 -/
def word_Jump.j0 : Nat → Int → Int → Int → Int → Int → Option (Bool × Bool)
 | 0, _, _, _, _, _ => none
 | k + 1, x0, x2, x3, x10, x11 => (word_order_uint64.f x2 x3).bind fun t206 => ((word_order_int64.f x10 x11).bind fun t207 => (if x0 = 1 then (some ((t206 == 0), true)) else (if x0 = 5 then (some ((t206 != 0), true)) else (if x0 = 2 then (some (decide (t206 > 0), true)) else (if x0 = 3 then (some (decide (t206 ≥ 0), true)) else (if x0 = 10 then (some (decide (t206 < 0), true)) else (if x0 = 11 then (some (decide (t206 ≤ 0), true)) else (if x0 = 6 then (some (decide (t207 > 0), true)) else (if x0 = 7 then (some (decide (t207 ≥ 0), true)) else (if x0 = 12 then (some (decide (t207 < 0), true)) else (if x0 = 13 then (some (decide (t207 ≤ 0), true)) else (if x0 = 4 then (some (((Go.bits .and .u64 x2 x3) != 0), true)) else (some (false, false))))))))))))))
def word_Jump.f (k : Nat) (a0 : Int) (a1 : Bool) (a2 : Int) (a3 : Int) : Option (Bool × Bool) := if a1 = true then (word_Jump.j0 k a0 a2 a3 (wrap64 (a2)) (wrap64 (a3))) else (word_Jump.j0 k a0 ((a2) % 4294967296) ((a3) % 4294967296) (wrap64 (wrap32 ((a2) % 4294967296))) (wrap64 (wrap32 ((a3) % 4294967296))))
theorem word_Jump.mono_l : ∀ k, (∀ y0 y1 y2 y3 y4, LeO (word_Jump.j0 k y0 y1 y2 y3 y4) (word_Jump.j0 (k + 1) y0 y1 y2 y3 y4))
 | 0 => fun _ _ _ _ _ r h => by simp [word_Jump.j0] at h
 | k + 1 => by
  have ih0 := word_Jump.mono_l k
  ·intro y0 y1 y2 y3 y4
   unfold word_Jump.j0
   repeat' first
   | (with_reducible exact ih0 _ _ _ _ _)
   | (with_reducible exact LeO.refl _)
   | (with_reducible exact LeO.none _)
   | (with_reducible refine LeO.ite ?_ ?_)
   | (with_reducible refine LeO.bind ?_ (fun _ => ?_))
   | exact ih0 _ _ _ _ _
   | exact LeO.none _
   | refine LeO.ite ?_ ?_
   | refine LeO.bind ?_ (fun _ => ?_)
theorem word_Jump.mono : ∀ a0 a1 a2 a3 k, LeO (word_Jump.f k a0 a1 a2 a3) (word_Jump.f (k + 1) a0 a1 a2 a3) := by
 intro a0 a1 a2 a3 k
 have ih0 := word_Jump.mono_l k
 unfold word_Jump.f
 repeat' first
  | (with_reducible exact ih0 _ _ _ _ _)
  | (with_reducible exact LeO.refl _)
  | (with_reducible exact LeO.none _)
  | (with_reducible refine LeO.ite ?_ ?_)
  | (with_reducible refine LeO.bind ?_ (fun _ => ?_))
  | exact ih0 _ _ _ _ _
  | exact LeO.none _
  | refine LeO.ite ?_ ?_
  | refine LeO.bind ?_ (fun _ => ?_)
set_option maxHeartbeats 8000000 in
set_option maxRecDepth 100000 in
theorem word_Jump.calls (k : Nat) (a0 : Int) (a1 : Bool) (a2 : Int) (a3 : Int) (r1 : Bool) (r2 : Bool) (w : World) (h : word_Jump.f k a0 a1 a2 a3 = some (r1, r2)) :
 Calls Try.prog 25 #[.int .i64 a0, .bool a1, .int .u64 a2, .int .u64 a3] w fun e w' => e = .returned (.tuple #[.bool r1, .bool r2]) ∧ Drawn0 w w' := by
 have H : (if a1 = true then (word_Jump.j0 k a0 a2 a3 (wrap64 (a2)) (wrap64 (a3))) else (word_Jump.j0 k a0 ((a2) % 4294967296) ((a3) % 4294967296) (wrap64 (wrap32 ((a2) % 4294967296))) (wrap64 (wrap32 ((a3) % 4294967296))))) = some (r1, r2) := h
 clear h
 have HC5 := Aside0.mk H
 clear H
 go_enter Try.func25, Try.ntmps25
 go_upto_if 19 with (fail)
 go_cut [2, 3, 10, 11] (fun v2 v3 v10 v11 wc => ∃ (kq : Nat) (x2_4 : Int) (x3_4 : Int) (x10_4 : Int) (x11_4 : Int), v2 = .int .u64 x2_4 ∧ v3 = .int .u64 x3_4 ∧ v10 = .int .i64 x10_4 ∧ v11 = .int .i64 x11_4 ∧ Aside0 (word_Jump.j0 kq a0 x2_4 x3_4 x10_4 x11_4 = some (r1, r2)) ∧ Aside0 (kq ≤ k) ∧ Drawn0 w wc)
 case first =>
  have H := HC5.out
  clear HC5
  by_cases c6 : a1 = true
  ·subst c6
   have H1 : (word_Jump.j0 k a0 a2 a3 (wrap64 (a2)) (wrap64 (a3))) = some (r1, r2) := by rw [if_pos rfl] at H; exact H
   clear H
   have H := H1
   clear H1
   have H' := Aside0.mk H
   clear H
   go_wp2
   go_meet
   case rel => exact ⟨_, (a2), (a3), (wrap64 (a2)), (wrap64 (a3)), (by first | rfl | (simp; done) | (simp [*]; done)), (by first | rfl | (simp; done) | (simp [*]; done)), (by first | rfl | (simp; done) | (simp [*]; done)), (by first | rfl | (simp; done) | (simp [*]; done)), H', ⟨by first | omega | exact Nat.le_refl _⟩, by repeat (first | exact Drawn0.refl _ | apply Drawn0.step)⟩
  ·replace c6 := Bool.eq_false_iff.mpr c6
   subst c6
   have H1 : (word_Jump.j0 k a0 ((a2) % 4294967296) ((a3) % 4294967296) (wrap64 (wrap32 ((a2) % 4294967296))) (wrap64 (wrap32 ((a3) % 4294967296)))) = some (r1, r2) := by rw [if_neg (show ¬ (false = true) by decide)] at H; exact H
   clear H
   have H := H1
   clear H1
   have H' := Aside0.mk H
   clear H
   go_wp2
   go_meet
   case rel => exact ⟨_, ((a2) % 4294967296), ((a3) % 4294967296), (wrap64 (wrap32 ((a2) % 4294967296))), (wrap64 (wrap32 ((a3) % 4294967296))), (by first | rfl | (simp; done) | (simp [*]; done)), (by first | rfl | (simp; done) | (simp [*]; done)), (by first | rfl | (simp; done) | (simp [*]; done)), (by first | rfl | (simp; done) | (simp [*]; done)), H', ⟨by first | omega | exact Nat.le_refl _⟩, by repeat (first | exact Drawn0.refl _ | apply Drawn0.step)⟩
 case rest =>
  clear HC5
  try clear c2
  try clear p2
  try clear p3
  try clear c6
  try clear p6
  obtain ⟨kq, x2_4, x3_4, x10_4, x11_4, rfl, rfl, rfl, rfl, HA, HJ4, ⟨mc4, rfl⟩⟩ := hcut
  cases kq with
  | zero => exact absurd HA.out (by simp [word_Jump.j0])
  | succ kj4 =>
   have H := HA.out
   clear HA
   simp only [word_Jump.j0] at H
   replace H := Option.bind_eq_some_iff.mp H
   obtain ⟨t206, A70, H⟩ := H
   replace H : ((word_order_int64.f x10_4 x11_4).bind fun t207 => (if a0 = 1 then (some ((t206 == 0), true)) else (if a0 = 5 then (some ((t206 != 0), true)) else (if a0 = 2 then (some (decide (t206 > 0), true)) else (if a0 = 3 then (some (decide (t206 ≥ 0), true)) else (if a0 = 10 then (some (decide (t206 < 0), true)) else (if a0 = 11 then (some (decide (t206 ≤ 0), true)) else (if a0 = 6 then (some (decide (t207 > 0), true)) else (if a0 = 7 then (some (decide (t207 ≥ 0), true)) else (if a0 = 12 then (some (decide (t207 < 0), true)) else (if a0 = 13 then (some (decide (t207 ≤ 0), true)) else (if a0 = 4 then (some (((Go.bits .and .u64 x2_4 x3_4) != 0), true)) else (some (false, false)))))))))))))) = some (r1, r2) := H
   have A7 := Aside0.mk A70
   clear A70
   replace H := Option.bind_eq_some_iff.mp H
   obtain ⟨t207, A80, H⟩ := H
   replace H : (if a0 = 1 then (some ((t206 == 0), true)) else (if a0 = 5 then (some ((t206 != 0), true)) else (if a0 = 2 then (some (decide (t206 > 0), true)) else (if a0 = 3 then (some (decide (t206 ≥ 0), true)) else (if a0 = 10 then (some (decide (t206 < 0), true)) else (if a0 = 11 then (some (decide (t206 ≤ 0), true)) else (if a0 = 6 then (some (decide (t207 > 0), true)) else (if a0 = 7 then (some (decide (t207 ≥ 0), true)) else (if a0 = 12 then (some (decide (t207 < 0), true)) else (if a0 = 13 then (some (decide (t207 ≤ 0), true)) else (if a0 = 4 then (some (((Go.bits .and .u64 x2_4 x3_4) != 0), true)) else (some (false, false))))))))))))) = some (r1, r2) := H
   have A8 := Aside0.mk A80
   clear A80
   by_cases c9 : a0 = 1
   ·rw [if_pos c9] at H
    have c9b0 : (a0 == 1) = true := beq_iff_eq.mpr c9
    have c9b1 : (a0 != 1) = false := bne_eq_false_iff_eq.mpr c9
    clear c9
    simp only [Option.some.injEq, Prod.mk.injEq] at H
    obtain ⟨rfl, rfl⟩ := H
    go_wp2_with (first | ((with_reducible refine gate_callee (f := 36) rfl ?_); refine gM_ 36 Try.func36 (word_order_uint64.calls x2_4 x3_4 t206 _ A7.out) ?_; rintro w' ⟨nd, rfl⟩) | ((with_reducible refine gate_callee (f := 37) rfl ?_); refine gM_ 39 Try.func37 (word_order_int64.calls x10_4 x11_4 t207 _ A8.out) ?_; rintro w' ⟨nd, rfl⟩))
    go_ret2
    exact ⟨by first | rfl | (simp; done) | (simp [*]; done), by repeat (first | exact Drawn0.refl _ | apply Drawn0.step)⟩
   ·rw [if_neg c9] at H
    have c9b0 : (a0 == 1) = false := beq_eq_false_iff_ne.mpr c9
    have c9b1 : (a0 != 1) = true := bne_iff_ne.mpr c9
    by_cases c10 : a0 = 5
    ·rw [if_pos c10] at H
     have c10b0 : (a0 == 5) = true := beq_iff_eq.mpr c10
     have c10b1 : (a0 != 5) = false := bne_eq_false_iff_eq.mpr c10
     clear c10
     simp only [Option.some.injEq, Prod.mk.injEq] at H
     obtain ⟨rfl, rfl⟩ := H
     go_wp2_with (first | ((with_reducible refine gate_callee (f := 36) rfl ?_); refine gM_ 36 Try.func36 (word_order_uint64.calls x2_4 x3_4 t206 _ A7.out) ?_; rintro w' ⟨nd, rfl⟩) | ((with_reducible refine gate_callee (f := 37) rfl ?_); refine gM_ 39 Try.func37 (word_order_int64.calls x10_4 x11_4 t207 _ A8.out) ?_; rintro w' ⟨nd, rfl⟩))
     go_ret2
     exact ⟨by first | rfl | (simp; done) | (simp [*]; done), by repeat (first | exact Drawn0.refl _ | apply Drawn0.step)⟩
    ·rw [if_neg c10] at H
     have c10b0 : (a0 == 5) = false := beq_eq_false_iff_ne.mpr c10
     have c10b1 : (a0 != 5) = true := bne_iff_ne.mpr c10
     by_cases c11 : a0 = 2
     ·rw [if_pos c11] at H
      have c11b0 : (a0 == 2) = true := beq_iff_eq.mpr c11
      have c11b1 : (a0 != 2) = false := bne_eq_false_iff_eq.mpr c11
      clear c11
      simp only [Option.some.injEq, Prod.mk.injEq] at H
      obtain ⟨rfl, rfl⟩ := H
      go_wp2_with (first | ((with_reducible refine gate_callee (f := 36) rfl ?_); refine gM_ 36 Try.func36 (word_order_uint64.calls x2_4 x3_4 t206 _ A7.out) ?_; rintro w' ⟨nd, rfl⟩) | ((with_reducible refine gate_callee (f := 37) rfl ?_); refine gM_ 39 Try.func37 (word_order_int64.calls x10_4 x11_4 t207 _ A8.out) ?_; rintro w' ⟨nd, rfl⟩))
      go_ret2
      exact ⟨by first | rfl | (simp; done) | (simp [*]; done), by repeat (first | exact Drawn0.refl _ | apply Drawn0.step)⟩
     ·rw [if_neg c11] at H
      have c11b0 : (a0 == 2) = false := beq_eq_false_iff_ne.mpr c11
      have c11b1 : (a0 != 2) = true := bne_iff_ne.mpr c11
      by_cases c12 : a0 = 3
      ·rw [if_pos c12] at H
       have c12b0 : (a0 == 3) = true := beq_iff_eq.mpr c12
       have c12b1 : (a0 != 3) = false := bne_eq_false_iff_eq.mpr c12
       clear c12
       simp only [Option.some.injEq, Prod.mk.injEq] at H
       obtain ⟨rfl, rfl⟩ := H
       go_wp2_with (first | ((with_reducible refine gate_callee (f := 36) rfl ?_); refine gM_ 36 Try.func36 (word_order_uint64.calls x2_4 x3_4 t206 _ A7.out) ?_; rintro w' ⟨nd, rfl⟩) | ((with_reducible refine gate_callee (f := 37) rfl ?_); refine gM_ 39 Try.func37 (word_order_int64.calls x10_4 x11_4 t207 _ A8.out) ?_; rintro w' ⟨nd, rfl⟩))
       go_ret2
       exact ⟨by first | rfl | (simp; done) | (simp [*]; done), by repeat (first | exact Drawn0.refl _ | apply Drawn0.step)⟩
      ·rw [if_neg c12] at H
       have c12b0 : (a0 == 3) = false := beq_eq_false_iff_ne.mpr c12
       have c12b1 : (a0 != 3) = true := bne_iff_ne.mpr c12
       by_cases c13 : a0 = 10
       ·rw [if_pos c13] at H
        have c13b0 : (a0 == 10) = true := beq_iff_eq.mpr c13
        have c13b1 : (a0 != 10) = false := bne_eq_false_iff_eq.mpr c13
        clear c13
        simp only [Option.some.injEq, Prod.mk.injEq] at H
        obtain ⟨rfl, rfl⟩ := H
        go_wp2_with (first | ((with_reducible refine gate_callee (f := 36) rfl ?_); refine gM_ 36 Try.func36 (word_order_uint64.calls x2_4 x3_4 t206 _ A7.out) ?_; rintro w' ⟨nd, rfl⟩) | ((with_reducible refine gate_callee (f := 37) rfl ?_); refine gM_ 39 Try.func37 (word_order_int64.calls x10_4 x11_4 t207 _ A8.out) ?_; rintro w' ⟨nd, rfl⟩))
        go_ret2
        exact ⟨by first | rfl | (simp; done) | (simp [*]; done), by repeat (first | exact Drawn0.refl _ | apply Drawn0.step)⟩
       ·rw [if_neg c13] at H
        have c13b0 : (a0 == 10) = false := beq_eq_false_iff_ne.mpr c13
        have c13b1 : (a0 != 10) = true := bne_iff_ne.mpr c13
        by_cases c14 : a0 = 11
        ·rw [if_pos c14] at H
         have c14b0 : (a0 == 11) = true := beq_iff_eq.mpr c14
         have c14b1 : (a0 != 11) = false := bne_eq_false_iff_eq.mpr c14
         clear c14
         simp only [Option.some.injEq, Prod.mk.injEq] at H
         obtain ⟨rfl, rfl⟩ := H
         go_wp2_with (first | ((with_reducible refine gate_callee (f := 36) rfl ?_); refine gM_ 36 Try.func36 (word_order_uint64.calls x2_4 x3_4 t206 _ A7.out) ?_; rintro w' ⟨nd, rfl⟩) | ((with_reducible refine gate_callee (f := 37) rfl ?_); refine gM_ 39 Try.func37 (word_order_int64.calls x10_4 x11_4 t207 _ A8.out) ?_; rintro w' ⟨nd, rfl⟩))
         go_ret2
         exact ⟨by first | rfl | (simp; done) | (simp [*]; done), by repeat (first | exact Drawn0.refl _ | apply Drawn0.step)⟩
        ·rw [if_neg c14] at H
         have c14b0 : (a0 == 11) = false := beq_eq_false_iff_ne.mpr c14
         have c14b1 : (a0 != 11) = true := bne_iff_ne.mpr c14
         by_cases c15 : a0 = 6
         ·rw [if_pos c15] at H
          have c15b0 : (a0 == 6) = true := beq_iff_eq.mpr c15
          have c15b1 : (a0 != 6) = false := bne_eq_false_iff_eq.mpr c15
          clear c15
          simp only [Option.some.injEq, Prod.mk.injEq] at H
          obtain ⟨rfl, rfl⟩ := H
          go_wp2_with (first | ((with_reducible refine gate_callee (f := 36) rfl ?_); refine gM_ 36 Try.func36 (word_order_uint64.calls x2_4 x3_4 t206 _ A7.out) ?_; rintro w' ⟨nd, rfl⟩) | ((with_reducible refine gate_callee (f := 37) rfl ?_); refine gM_ 39 Try.func37 (word_order_int64.calls x10_4 x11_4 t207 _ A8.out) ?_; rintro w' ⟨nd, rfl⟩))
          go_ret2
          exact ⟨by first | rfl | (simp; done) | (simp [*]; done), by repeat (first | exact Drawn0.refl _ | apply Drawn0.step)⟩
         ·rw [if_neg c15] at H
          have c15b0 : (a0 == 6) = false := beq_eq_false_iff_ne.mpr c15
          have c15b1 : (a0 != 6) = true := bne_iff_ne.mpr c15
          by_cases c16 : a0 = 7
          ·rw [if_pos c16] at H
           have c16b0 : (a0 == 7) = true := beq_iff_eq.mpr c16
           have c16b1 : (a0 != 7) = false := bne_eq_false_iff_eq.mpr c16
           clear c16
           simp only [Option.some.injEq, Prod.mk.injEq] at H
           obtain ⟨rfl, rfl⟩ := H
           go_wp2_with (first | ((with_reducible refine gate_callee (f := 36) rfl ?_); refine gM_ 36 Try.func36 (word_order_uint64.calls x2_4 x3_4 t206 _ A7.out) ?_; rintro w' ⟨nd, rfl⟩) | ((with_reducible refine gate_callee (f := 37) rfl ?_); refine gM_ 39 Try.func37 (word_order_int64.calls x10_4 x11_4 t207 _ A8.out) ?_; rintro w' ⟨nd, rfl⟩))
           go_ret2
           exact ⟨by first | rfl | (simp; done) | (simp [*]; done), by repeat (first | exact Drawn0.refl _ | apply Drawn0.step)⟩
          ·rw [if_neg c16] at H
           have c16b0 : (a0 == 7) = false := beq_eq_false_iff_ne.mpr c16
           have c16b1 : (a0 != 7) = true := bne_iff_ne.mpr c16
           by_cases c17 : a0 = 12
           ·rw [if_pos c17] at H
            have c17b0 : (a0 == 12) = true := beq_iff_eq.mpr c17
            have c17b1 : (a0 != 12) = false := bne_eq_false_iff_eq.mpr c17
            clear c17
            simp only [Option.some.injEq, Prod.mk.injEq] at H
            obtain ⟨rfl, rfl⟩ := H
            go_wp2_with (first | ((with_reducible refine gate_callee (f := 36) rfl ?_); refine gM_ 36 Try.func36 (word_order_uint64.calls x2_4 x3_4 t206 _ A7.out) ?_; rintro w' ⟨nd, rfl⟩) | ((with_reducible refine gate_callee (f := 37) rfl ?_); refine gM_ 39 Try.func37 (word_order_int64.calls x10_4 x11_4 t207 _ A8.out) ?_; rintro w' ⟨nd, rfl⟩))
            go_ret2
            exact ⟨by first | rfl | (simp; done) | (simp [*]; done), by repeat (first | exact Drawn0.refl _ | apply Drawn0.step)⟩
           ·rw [if_neg c17] at H
            have c17b0 : (a0 == 12) = false := beq_eq_false_iff_ne.mpr c17
            have c17b1 : (a0 != 12) = true := bne_iff_ne.mpr c17
            by_cases c18 : a0 = 13
            ·rw [if_pos c18] at H
             have c18b0 : (a0 == 13) = true := beq_iff_eq.mpr c18
             have c18b1 : (a0 != 13) = false := bne_eq_false_iff_eq.mpr c18
             clear c18
             simp only [Option.some.injEq, Prod.mk.injEq] at H
             obtain ⟨rfl, rfl⟩ := H
             go_wp2_with (first | ((with_reducible refine gate_callee (f := 36) rfl ?_); refine gM_ 36 Try.func36 (word_order_uint64.calls x2_4 x3_4 t206 _ A7.out) ?_; rintro w' ⟨nd, rfl⟩) | ((with_reducible refine gate_callee (f := 37) rfl ?_); refine gM_ 39 Try.func37 (word_order_int64.calls x10_4 x11_4 t207 _ A8.out) ?_; rintro w' ⟨nd, rfl⟩))
             go_ret2
             exact ⟨by first | rfl | (simp; done) | (simp [*]; done), by repeat (first | exact Drawn0.refl _ | apply Drawn0.step)⟩
            ·rw [if_neg c18] at H
             have c18b0 : (a0 == 13) = false := beq_eq_false_iff_ne.mpr c18
             have c18b1 : (a0 != 13) = true := bne_iff_ne.mpr c18
             by_cases c19 : a0 = 4
             ·rw [if_pos c19] at H
              have c19b0 : (a0 == 4) = true := beq_iff_eq.mpr c19
              have c19b1 : (a0 != 4) = false := bne_eq_false_iff_eq.mpr c19
              clear c19
              simp only [Option.some.injEq, Prod.mk.injEq] at H
              obtain ⟨rfl, rfl⟩ := H
              go_wp2_with (first | ((with_reducible refine gate_callee (f := 36) rfl ?_); refine gM_ 36 Try.func36 (word_order_uint64.calls x2_4 x3_4 t206 _ A7.out) ?_; rintro w' ⟨nd, rfl⟩) | ((with_reducible refine gate_callee (f := 37) rfl ?_); refine gM_ 39 Try.func37 (word_order_int64.calls x10_4 x11_4 t207 _ A8.out) ?_; rintro w' ⟨nd, rfl⟩))
              go_ret2
              exact ⟨by first | rfl | (simp; done) | (simp [*]; done), by repeat (first | exact Drawn0.refl _ | apply Drawn0.step)⟩
             ·rw [if_neg c19] at H
              have c19b0 : (a0 == 4) = false := beq_eq_false_iff_ne.mpr c19
              have c19b1 : (a0 != 4) = true := bne_iff_ne.mpr c19
              simp only [Option.some.injEq, Prod.mk.injEq] at H
              obtain ⟨rfl, rfl⟩ := H
              go_wp2_with (first | ((with_reducible refine gate_callee (f := 36) rfl ?_); refine gM_ 36 Try.func36 (word_order_uint64.calls x2_4 x3_4 t206 _ A7.out) ?_; rintro w' ⟨nd, rfl⟩) | ((with_reducible refine gate_callee (f := 37) rfl ?_); refine gM_ 39 Try.func37 (word_order_int64.calls x10_4 x11_4 t207 _ A8.out) ?_; rintro w' ⟨nd, rfl⟩))
              go_ret2
              exact ⟨by first | rfl | (simp; done) | (simp [*]; done), by repeat (first | exact Drawn0.refl _ | apply Drawn0.step)⟩

/-! ### value_sameNumber: function 30 -/
def value_sameNumber.f (a0_0 : Int) (a0_1 : Int) (a0_2 : Int) (a1_0 : Int) (a1_1 : Int) (a1_2 : Int) : Option (Bool) := if a0_0 = a1_0 then (some (a0_1 == a1_1)) else (some false)
set_option maxHeartbeats 8000000 in
set_option maxRecDepth 100000 in
theorem value_sameNumber.calls (a0_0 : Int) (a0_1 : Int) (a0_2 : Int) (a1_0 : Int) (a1_1 : Int) (a1_2 : Int) (r : Bool) (w : World) (h : value_sameNumber.f a0_0 a0_1 a0_2 a1_0 a1_1 a1_2 = some r) :
 Calls Try.prog 30 #[.agg #[.int .i64 a0_0, .int .u64 a0_1, .int .i64 a0_2], .agg #[.int .i64 a1_0, .int .u64 a1_1, .int .i64 a1_2]] w fun e w' => e = .returned (.bool r) ∧ Below w.heap.size w w' := by
 have hu24 := Try.underlying24
 have HB := Aside0.mk (Below.refl w.heap.size w)
 have H : (if a0_0 = a1_0 then (some (a0_1 == a1_1)) else (some false)) = some r := h
 clear h
 by_cases c3 : a0_0 = a1_0
 ·rw [if_pos c3] at H
  have c3b0 : (a0_0 == a1_0) = true := beq_iff_eq.mpr c3
  have c3b1 : (a0_0 != a1_0) = false := bne_eq_false_iff_eq.mpr c3
  clear c3
  obtain rfl := Option.some.inj H
  go_enter Try.func30, Try.ntmps30
  go_wp2_with (first | ((with_reducible refine gate_dst (N := 2) rfl ?_); refine bx_ 2 #[.int .i64 a0_0, .int .u64 a0_1, .int .i64 a0_2] 24 ?_; intro gb208 hg w4 BK208 hb; have GW208 := bg_ hg; have GE208 := GW208; replace HB := bl_ hb; clear hb hg) | ((with_reducible refine gate_dst (N := 3) rfl ?_); refine bx_ 3 #[.int .i64 a1_0, .int .u64 a1_1, .int .i64 a1_2] 24 ?_; intro gb209 hg w5 BK209 hb; have GW209 := bg_ hg; have GE209 := GW209; have NB208_209 := bm_ hg BK208; have NB209_208 := bn_ hg BK208; replace BK208 := bb_ hb BK208; replace HB := bl_ hb; clear hb hg; have hnb6 := NB208_209.out; have hnc6 := NB209_208.out; obtain ⟨zc7_0, zc7_1, zc7_2, zf7_0, zf7_1, zf7_2⟩ := k3_ BK208; obtain ⟨zc8_0, zc8_1, zc8_2, zf8_0, zf8_1, zf8_2⟩ := k3_ BK209))
  go_ret
  exact ⟨vv_, bz_⟩
 ·rw [if_neg c3] at H
  have c3b0 : (a0_0 == a1_0) = false := beq_eq_false_iff_ne.mpr c3
  have c3b1 : (a0_0 != a1_0) = true := bne_iff_ne.mpr c3
  obtain rfl := Option.some.inj H
  go_enter Try.func30, Try.ntmps30
  go_wp2_with (first | ((with_reducible refine gate_dst (N := 2) rfl ?_); refine bx_ 2 #[.int .i64 a0_0, .int .u64 a0_1, .int .i64 a0_2] 24 ?_; intro gb208 hg w9 BK208 hb; have GW208 := bg_ hg; have GE208 := GW208; replace HB := bl_ hb; clear hb hg) | ((with_reducible refine gate_dst (N := 3) rfl ?_); refine bx_ 3 #[.int .i64 a1_0, .int .u64 a1_1, .int .i64 a1_2] 24 ?_; intro gb209 hg w10 BK209 hb; have GW209 := bg_ hg; have GE209 := GW209; have NB208_209 := bm_ hg BK208; have NB209_208 := bn_ hg BK208; replace BK208 := bb_ hb BK208; replace HB := bl_ hb; clear hb hg; have hnb11 := NB208_209.out; have hnc11 := NB209_208.out; obtain ⟨zc12_0, zc12_1, zc12_2, zf12_0, zf12_1, zf12_2⟩ := k3_ BK208; obtain ⟨zc13_0, zc13_1, zc13_2, zf13_0, zf13_1, zf13_2⟩ := k3_ BK209))
  go_ret
  exact ⟨vv_, bz_⟩

/-! ### value_ordered: function 31 -/
def value_ordered.f (a0 : Int) (a1 : Int) (a2 : Int) : Option (Bool × Bool) := if a0 = 2 then (some (decide (a1 > a2), true)) else (if a0 = 3 then (some (decide (a1 ≥ a2), true)) else (if a0 = 10 then (some (decide (a1 < a2), true)) else (if a0 = 11 then (some (decide (a1 ≤ a2), true)) else (some (false, false)))))
set_option maxHeartbeats 8000000 in
set_option maxRecDepth 100000 in
theorem value_ordered.calls (a0 : Int) (a1 : Int) (a2 : Int) (r1 : Bool) (r2 : Bool) (w : World) (h : value_ordered.f a0 a1 a2 = some (r1, r2)) :
 Calls Try.prog 31 #[.int .i64 a0, .int .i64 a1, .int .i64 a2] w fun e w' => e = .returned (.tuple #[.bool r1, .bool r2]) ∧ Drawn0 w w' := by
 have H : (if a0 = 2 then (some (decide (a1 > a2), true)) else (if a0 = 3 then (some (decide (a1 ≥ a2), true)) else (if a0 = 10 then (some (decide (a1 < a2), true)) else (if a0 = 11 then (some (decide (a1 ≤ a2), true)) else (some (false, false)))))) = some (r1, r2) := h
 clear h
 by_cases c4 : a0 = 2
 ·rw [if_pos c4] at H
  have c4b0 : (a0 == 2) = true := beq_iff_eq.mpr c4
  have c4b1 : (a0 != 2) = false := bne_eq_false_iff_eq.mpr c4
  clear c4
  simp only [Option.some.injEq, Prod.mk.injEq] at H
  obtain ⟨rfl, rfl⟩ := H
  go_enter Try.func31, Try.ntmps31
  go_wp2
  go_ret2
  exact ⟨by first | rfl | (simp; done) | (simp [*]; done), by repeat (first | exact Drawn0.refl _ | apply Drawn0.step)⟩
 ·rw [if_neg c4] at H
  have c4b0 : (a0 == 2) = false := beq_eq_false_iff_ne.mpr c4
  have c4b1 : (a0 != 2) = true := bne_iff_ne.mpr c4
  by_cases c5 : a0 = 3
  ·rw [if_pos c5] at H
   have c5b0 : (a0 == 3) = true := beq_iff_eq.mpr c5
   have c5b1 : (a0 != 3) = false := bne_eq_false_iff_eq.mpr c5
   clear c5
   simp only [Option.some.injEq, Prod.mk.injEq] at H
   obtain ⟨rfl, rfl⟩ := H
   go_enter Try.func31, Try.ntmps31
   go_wp2
   go_ret2
   exact ⟨by first | rfl | (simp; done) | (simp [*]; done), by repeat (first | exact Drawn0.refl _ | apply Drawn0.step)⟩
  ·rw [if_neg c5] at H
   have c5b0 : (a0 == 3) = false := beq_eq_false_iff_ne.mpr c5
   have c5b1 : (a0 != 3) = true := bne_iff_ne.mpr c5
   by_cases c6 : a0 = 10
   ·rw [if_pos c6] at H
    have c6b0 : (a0 == 10) = true := beq_iff_eq.mpr c6
    have c6b1 : (a0 != 10) = false := bne_eq_false_iff_eq.mpr c6
    clear c6
    simp only [Option.some.injEq, Prod.mk.injEq] at H
    obtain ⟨rfl, rfl⟩ := H
    go_enter Try.func31, Try.ntmps31
    go_wp2
    go_ret2
    exact ⟨by first | rfl | (simp; done) | (simp [*]; done), by repeat (first | exact Drawn0.refl _ | apply Drawn0.step)⟩
   ·rw [if_neg c6] at H
    have c6b0 : (a0 == 10) = false := beq_eq_false_iff_ne.mpr c6
    have c6b1 : (a0 != 10) = true := bne_iff_ne.mpr c6
    by_cases c7 : a0 = 11
    ·rw [if_pos c7] at H
     have c7b0 : (a0 == 11) = true := beq_iff_eq.mpr c7
     have c7b1 : (a0 != 11) = false := bne_eq_false_iff_eq.mpr c7
     clear c7
     simp only [Option.some.injEq, Prod.mk.injEq] at H
     obtain ⟨rfl, rfl⟩ := H
     go_enter Try.func31, Try.ntmps31
     go_wp2
     go_ret2
     exact ⟨by first | rfl | (simp; done) | (simp [*]; done), by repeat (first | exact Drawn0.refl _ | apply Drawn0.step)⟩
    ·rw [if_neg c7] at H
     have c7b0 : (a0 == 11) = false := beq_eq_false_iff_ne.mpr c7
     have c7b1 : (a0 != 11) = true := bne_iff_ne.mpr c7
     simp only [Option.some.injEq, Prod.mk.injEq] at H
     obtain ⟨rfl, rfl⟩ := H
     go_enter Try.func31, Try.ntmps31
     go_wp2
     go_ret2
     exact ⟨by first | rfl | (simp; done) | (simp [*]; done), by repeat (first | exact Drawn0.refl _ | apply Drawn0.step)⟩

end Go.Proofs.Ytnpbhippkcikoaa.PA
