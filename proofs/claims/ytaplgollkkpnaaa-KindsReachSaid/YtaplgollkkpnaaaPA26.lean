-- PRINTED by print.py (a twelfth state) out of the translation. Not trusted: Lean checks it.
import Derived.Test.YtaplgollkkpnaaaWGuard
import Derived.Test.YtaplgollkkpnaaaPA0
import Derived.Test.YtaplgollkkpnaaaSq
import Derived.Test.YtaplgollkkpnaaaPA25
namespace Go.Proofs.Ytaplgollkkpnaaa.PA
open Go.RowKit Go.Proofs.YtaplgollkkpnaaaW.PrintWords Go.Proofs.YtaplgollkkpnaaaW.PrintLast Go.Proofs.YtaplgollkkpnaaaW.PrintMore
attribute [local go_sem] max2_int min2_int max_two min_two max_three min_three max_four min_four   -- for this text's walks alone
set_option linter.unusedVariables false
set_option linter.unusedSimpArgs false

/-! ### lockgateref18_Access: function 10 -/
def lockgateref18_Access.j0 : Nat → Int → List (S37) → Int → Bool → Int → Int → Int → Int → Int → Int → Int → Int → Int → Int → Int → Option (Int)
 | 0, _, _, _, _, _, _, _, _, _, _, _, _, _, _, _ => none
 | k + 1, x2, x4, x11, x90, x496000, x496001, x496002, x496003, x496004, x496005, x496006, x496007, x496008, x496009, x496010 => if x90 = true then (some 22) else (if 0 ≤ (wrap64 (x496010 - 1)) then (if (wrap64 (x496010 - 1)) < (x4.length : Int) then (if (wrap64 ((wrap64 (((rd_T37 x4 (wrap64 (x496010 - 1))).f2) - x11)) - x2)) < 0 then (some 22) else (if x496004 > (IntKind.u64.wrap (wrap64 ((wrap64 (((rd_T37 x4 (wrap64 (x496010 - 1))).f2) - x11)) - x2))) then (some 22) else (some 0))) else (none)) else (none))
def lockgateref18_Access.f (k : Nat) (a0_0 : Int) (a0_1 : Int) (a0_2 : Int) (a0_3 : Int) (a0_4 : Int) (a0_5 : Int) (a0_6 : Int) (a0_7 : Int) (a0_8 : Int) (a0_9 : Int) (a0_10 : Int) (a1 : Int) (a2 : Int) (a3 : Bool) (l4 : List (S37)) : Option (Int) := if a0_0 = 0 then (some 20) else (if a0_0 = 7 then (some 23) else (if a0_0 = 1 then ((lockgateref05_Is.f a0_1 a0_2 a0_3 a0_4 a0_5 a0_6).bind fun bt496 => (if bt496.2 = true then (if bt496.1 = 0 then (some 23) else (some 21)) else (some 21))) else (if a0_0 = 2 then (if a0_9 ≤ 0 then (some 22) else (if (wrap64 (a0_7 + a1)) < 0 then (if a0_3 < (IntKind.u64.wrap (wrap64 (-(wrap64 (a0_7 + a1))))) then (some 22) else (if (wrap64 ((wrap64 (a0_7 + a1)) + a2)) > a0_9 then (some 22) else (some 0))) else (if (wrap64 ((wrap64 (a0_7 + a1)) + a2)) > a0_9 then (some 22) else (some 0)))) else (if a0_0 = 6 then (if a0_10 < 1 then (lockgateref18_Access.j0 k a2 l4 (wrap64 (a0_7 + a1)) true a0_0 a0_1 a0_2 a0_3 a0_4 a0_5 a0_6 a0_7 a0_8 a0_9 a0_10) else (if a0_10 > (l4.length : Int) then (lockgateref18_Access.j0 k a2 l4 (wrap64 (a0_7 + a1)) true a0_0 a0_1 a0_2 a0_3 a0_4 a0_5 a0_6 a0_7 a0_8 a0_9 a0_10) else (if (wrap64 (a0_7 + a1)) < 0 then (lockgateref18_Access.j0 k a2 l4 (wrap64 (a0_7 + a1)) (decide (a0_3 < (IntKind.u64.wrap (wrap64 (-(wrap64 (a0_7 + a1))))))) a0_0 a0_1 a0_2 a0_3 a0_4 a0_5 a0_6 a0_7 a0_8 a0_9 a0_10) else (lockgateref18_Access.j0 k a2 l4 (wrap64 (a0_7 + a1)) false a0_0 a0_1 a0_2 a0_3 a0_4 a0_5 a0_6 a0_7 a0_8 a0_9 a0_10)))) else (if a0_0 = 5 then (if a3 = true then (some 22) else (if a2 = 8 then (if (wrap64 (a0_7 + a1)) = 0 then (some 0) else (if (wrap64 (a0_7 + a1)) = 8 then (some 0) else (if (wrap64 (a0_7 + a1)) = 16 then (some 0) else (some 22)))) else (some 22))) else (some 21))))))
theorem lockgateref18_Access.mono_l : ∀ k, (∀ y0 y1 y2 y3 y4 y5 y6 y7 y8 y9 y10 y11 y12 y13 y14, LeO (lockgateref18_Access.j0 k y0 y1 y2 y3 y4 y5 y6 y7 y8 y9 y10 y11 y12 y13 y14) (lockgateref18_Access.j0 (k + 1) y0 y1 y2 y3 y4 y5 y6 y7 y8 y9 y10 y11 y12 y13 y14))
 | 0 => fun _ _ _ _ _ _ _ _ _ _ _ _ _ _ _ r h => by simp [lockgateref18_Access.j0] at h
 | k + 1 => by
  have ih0 := lockgateref18_Access.mono_l k
  ·intro y0 y1 y2 y3 y4 y5 y6 y7 y8 y9 y10 y11 y12 y13 y14
   unfold lockgateref18_Access.j0
   repeat' first
   | (with_reducible exact ih0 _ _ _ _ _ _ _ _ _ _ _ _ _ _ _)
   | (with_reducible exact LeO.refl _)
   | (with_reducible exact LeO.none _)
   | (with_reducible refine LeO.ite ?_ ?_)
   | (with_reducible refine LeO.bind ?_ (fun _ => ?_))
   | exact ih0 _ _ _ _ _ _ _ _ _ _ _ _ _ _ _
   | exact LeO.none _
   | refine LeO.ite ?_ ?_
   | refine LeO.bind ?_ (fun _ => ?_)
theorem lockgateref18_Access.mono : ∀ a0 a1 a2 a3 a4 a5 a6 a7 a8 a9 a10 a11 a12 a13 a14 k, LeO (lockgateref18_Access.f k a0 a1 a2 a3 a4 a5 a6 a7 a8 a9 a10 a11 a12 a13 a14) (lockgateref18_Access.f (k + 1) a0 a1 a2 a3 a4 a5 a6 a7 a8 a9 a10 a11 a12 a13 a14) := by
 intro a0 a1 a2 a3 a4 a5 a6 a7 a8 a9 a10 a11 a12 a13 a14 k
 have ih0 := lockgateref18_Access.mono_l k
 unfold lockgateref18_Access.f
 repeat' first
  | (with_reducible exact ih0 _ _ _ _ _ _ _ _ _ _ _ _ _ _ _)
  | (with_reducible exact LeO.refl _)
  | (with_reducible exact LeO.none _)
  | (with_reducible refine LeO.ite ?_ ?_)
  | (with_reducible refine LeO.bind ?_ (fun _ => ?_))
  | exact ih0 _ _ _ _ _ _ _ _ _ _ _ _ _ _ _
  | exact LeO.none _
  | refine LeO.ite ?_ ?_
  | refine LeO.bind ?_ (fun _ => ?_)
set_option maxHeartbeats 8000000 in
set_option maxRecDepth 100000 in
theorem lockgateref18_Access.calls (k : Nat) (a0_0 : Int) (a0_1 : Int) (a0_2 : Int) (a0_3 : Int) (a0_4 : Int) (a0_5 : Int) (a0_6 : Int) (a0_7 : Int) (a0_8 : Int) (a0_9 : Int) (a0_10 : Int) (a1 : Int) (a2 : Int) (a3 : Bool) (A4 : Option Addr) (c4 : Nat) (l4 : List (S37)) (r : Int) (w : World) (hr4 : Kd.C k37 w A4 l4.length l4) (hc4 : l4.length ≤ c4) (h : lockgateref18_Access.f k a0_0 a0_1 a0_2 a0_3 a0_4 a0_5 a0_6 a0_7 a0_8 a0_9 a0_10 a1 a2 a3 l4 = some r) :
 Calls Try.prog 10 #[.agg #[.int .i64 a0_0, .int .u64 a0_1, .int .u64 a0_2, .int .u64 a0_3, .int .u64 a0_4, .int .i64 a0_5, .int .i64 a0_6, .int .i64 a0_7, .int .i64 a0_8, .int .i64 a0_9, .int .i64 a0_10], .int .i64 a1, .int .i64 a2, .bool a3, .slice A4 l4.length c4] w fun e w' => e = .returned (.int .i64 r) ∧ Below w.heap.size w w' := by
 have hu32 := Try.underlying32
 have hu30 := Try.underlying30
 have HR4 := Aside0.mk hr4
 have HC4 := Aside0.mk hc4
 clear hr4 hc4
 have HB := Aside0.mk (Below.refl w.heap.size w)
 have H : (if a0_0 = 0 then (some 20) else (if a0_0 = 7 then (some 23) else (if a0_0 = 1 then ((lockgateref05_Is.f a0_1 a0_2 a0_3 a0_4 a0_5 a0_6).bind fun bt496 => (if bt496.2 = true then (if bt496.1 = 0 then (some 23) else (some 21)) else (some 21))) else (if a0_0 = 2 then (if a0_9 ≤ 0 then (some 22) else (if (wrap64 (a0_7 + a1)) < 0 then (if a0_3 < (IntKind.u64.wrap (wrap64 (-(wrap64 (a0_7 + a1))))) then (some 22) else (if (wrap64 ((wrap64 (a0_7 + a1)) + a2)) > a0_9 then (some 22) else (some 0))) else (if (wrap64 ((wrap64 (a0_7 + a1)) + a2)) > a0_9 then (some 22) else (some 0)))) else (if a0_0 = 6 then (if a0_10 < 1 then (lockgateref18_Access.j0 k a2 l4 (wrap64 (a0_7 + a1)) true a0_0 a0_1 a0_2 a0_3 a0_4 a0_5 a0_6 a0_7 a0_8 a0_9 a0_10) else (if a0_10 > (l4.length : Int) then (lockgateref18_Access.j0 k a2 l4 (wrap64 (a0_7 + a1)) true a0_0 a0_1 a0_2 a0_3 a0_4 a0_5 a0_6 a0_7 a0_8 a0_9 a0_10) else (if (wrap64 (a0_7 + a1)) < 0 then (lockgateref18_Access.j0 k a2 l4 (wrap64 (a0_7 + a1)) (decide (a0_3 < (IntKind.u64.wrap (wrap64 (-(wrap64 (a0_7 + a1))))))) a0_0 a0_1 a0_2 a0_3 a0_4 a0_5 a0_6 a0_7 a0_8 a0_9 a0_10) else (lockgateref18_Access.j0 k a2 l4 (wrap64 (a0_7 + a1)) false a0_0 a0_1 a0_2 a0_3 a0_4 a0_5 a0_6 a0_7 a0_8 a0_9 a0_10)))) else (if a0_0 = 5 then (if a3 = true then (some 22) else (if a2 = 8 then (if (wrap64 (a0_7 + a1)) = 0 then (some 0) else (if (wrap64 (a0_7 + a1)) = 8 then (some 0) else (if (wrap64 (a0_7 + a1)) = 16 then (some 0) else (some 22)))) else (some 22))) else (some 21))))))) = some r := h
 clear h
 by_cases c6 : a0_0 = 0
 ·rw [if_pos c6] at H
  have c6b0 : (a0_0 == 0) = true := beq_iff_eq.mpr c6
  have c6b1 : (a0_0 != 0) = false := bne_eq_false_iff_eq.mpr c6
  clear c6
  obtain rfl := Option.some.inj H
  go_enter Try.func10, Try.ntmps10
  go_wp2_with (first | ((with_reducible refine gate_dst (N := 5) rfl ?_); (try (refine gate_guard (by rfl) ?_; dsimp only)); refine bx_ 5 #[.int .i64 a0_0, .int .u64 a0_1, .int .u64 a0_2, .int .u64 a0_3, .int .u64 a0_4, .int .i64 a0_5, .int .i64 a0_6, .int .i64 a0_7, .int .i64 a0_8, .int .i64 a0_9, .int .i64 a0_10] 32 ?_; intro gb495 hg w7 BK495 hb; have GW495 := bg_ hg; have GE495 := GW495; replace HB := bl_ hb; clear hb hg; have zc8_0 := c0_ BK495; have zc8_1 := c1_ BK495; have zc8_2 := c2_ BK495; have zc8_3 := c3_ BK495; have zc8_4 := c4_ BK495; have zc8_5 := c5_ BK495; have zc8_6 := c6_ BK495; have zc8_7 := c7_ BK495; have zc8_8 : w7.cell? ⟨gb495, 8, none⟩ = some (.int .i64 a0_8) := (blk_cell BK495.out 8).trans rfl; have zc8_9 : w7.cell? ⟨gb495, 9, none⟩ = some (.int .i64 a0_9) := (blk_cell BK495.out 9).trans rfl; have zc8_10 : w7.cell? ⟨gb495, 10, none⟩ = some (.int .i64 a0_10) := (blk_cell BK495.out 10).trans rfl; have zf8_0 := fz_ BK495 0; have zf8_1 := fz_ BK495 1; have zf8_2 := fz_ BK495 2; have zf8_3 := fz_ BK495 3; have zf8_4 := fz_ BK495 4; have zf8_5 := fz_ BK495 5; have zf8_6 := fz_ BK495 6; have zf8_7 := fz_ BK495 7; have zf8_8 := fz_ BK495 8; have zf8_9 := fz_ BK495 9; have zf8_10 := fz_ BK495 10))
  go_ret
  exact ⟨vv_, bz_⟩
 ·rw [if_neg c6] at H
  have c6b0 : (a0_0 == 0) = false := beq_eq_false_iff_ne.mpr c6
  have c6b1 : (a0_0 != 0) = true := bne_iff_ne.mpr c6
  by_cases c9 : a0_0 = 7
  ·rw [if_pos c9] at H
   have c9b0 : (a0_0 == 7) = true := beq_iff_eq.mpr c9
   have c9b1 : (a0_0 != 7) = false := bne_eq_false_iff_eq.mpr c9
   clear c9
   obtain rfl := Option.some.inj H
   go_enter Try.func10, Try.ntmps10
   go_wp2_with (first | ((with_reducible refine gate_dst (N := 5) rfl ?_); (try (refine gate_guard (by rfl) ?_; dsimp only)); refine bx_ 5 #[.int .i64 a0_0, .int .u64 a0_1, .int .u64 a0_2, .int .u64 a0_3, .int .u64 a0_4, .int .i64 a0_5, .int .i64 a0_6, .int .i64 a0_7, .int .i64 a0_8, .int .i64 a0_9, .int .i64 a0_10] 32 ?_; intro gb495 hg w10 BK495 hb; have GW495 := bg_ hg; have GE495 := GW495; replace HB := bl_ hb; clear hb hg; have zc11_0 := c0_ BK495; have zc11_1 := c1_ BK495; have zc11_2 := c2_ BK495; have zc11_3 := c3_ BK495; have zc11_4 := c4_ BK495; have zc11_5 := c5_ BK495; have zc11_6 := c6_ BK495; have zc11_7 := c7_ BK495; have zc11_8 : w10.cell? ⟨gb495, 8, none⟩ = some (.int .i64 a0_8) := (blk_cell BK495.out 8).trans rfl; have zc11_9 : w10.cell? ⟨gb495, 9, none⟩ = some (.int .i64 a0_9) := (blk_cell BK495.out 9).trans rfl; have zc11_10 : w10.cell? ⟨gb495, 10, none⟩ = some (.int .i64 a0_10) := (blk_cell BK495.out 10).trans rfl; have zf11_0 := fz_ BK495 0; have zf11_1 := fz_ BK495 1; have zf11_2 := fz_ BK495 2; have zf11_3 := fz_ BK495 3; have zf11_4 := fz_ BK495 4; have zf11_5 := fz_ BK495 5; have zf11_6 := fz_ BK495 6; have zf11_7 := fz_ BK495 7; have zf11_8 := fz_ BK495 8; have zf11_9 := fz_ BK495 9; have zf11_10 := fz_ BK495 10))
   go_ret
   exact ⟨vv_, bz_⟩
  ·rw [if_neg c9] at H
   have c9b0 : (a0_0 == 7) = false := beq_eq_false_iff_ne.mpr c9
   have c9b1 : (a0_0 != 7) = true := bne_iff_ne.mpr c9
   by_cases c12 : a0_0 = 1
   ·rw [if_pos c12] at H
    have c12b0 : (a0_0 == 1) = true := beq_iff_eq.mpr c12
    have c12b1 : (a0_0 != 1) = false := bne_eq_false_iff_eq.mpr c12
    clear c12
    replace H := Option.bind_eq_some_iff.mp H
    obtain ⟨⟨t496, t497⟩, A130, H⟩ := H
    replace H : (if t497 = true then (if t496 = 0 then (some 23) else (some 21)) else (some 21)) = some r := H
    have A13 := Aside0.mk A130
    clear A130
    by_cases c14 : t497 = true
    ·subst c14
     have H1 : (if t496 = 0 then (some 23) else (some 21)) = some r := by rw [if_pos rfl] at H; exact H
     clear H
     have H := H1
     clear H1
     by_cases c15 : t496 = 0
     ·rw [if_pos c15] at H
      have c15b0 : (t496 == 0) = true := beq_iff_eq.mpr c15
      have c15b1 : (t496 != 0) = false := bne_eq_false_iff_eq.mpr c15
      clear c15
      obtain rfl := Option.some.inj H
      go_enter Try.func10, Try.ntmps10
      go_wp2_with (first | ((with_reducible refine gate_dst (N := 5) rfl ?_); (try (refine gate_guard (by rfl) ?_; dsimp only)); refine bx_ 5 #[.int .i64 a0_0, .int .u64 a0_1, .int .u64 a0_2, .int .u64 a0_3, .int .u64 a0_4, .int .i64 a0_5, .int .i64 a0_6, .int .i64 a0_7, .int .i64 a0_8, .int .i64 a0_9, .int .i64 a0_10] 32 ?_; intro gb495 hg w16 BK495 hb; have GW495 := bg_ hg; have GE495 := GW495; replace HB := bl_ hb; clear hb hg; have zc17_0 := c0_ BK495; have zc17_1 := c1_ BK495; have zc17_2 := c2_ BK495; have zc17_3 := c3_ BK495; have zc17_4 := c4_ BK495; have zc17_5 := c5_ BK495; have zc17_6 := c6_ BK495; have zc17_7 := c7_ BK495; have zc17_8 : w16.cell? ⟨gb495, 8, none⟩ = some (.int .i64 a0_8) := (blk_cell BK495.out 8).trans rfl; have zc17_9 : w16.cell? ⟨gb495, 9, none⟩ = some (.int .i64 a0_9) := (blk_cell BK495.out 9).trans rfl; have zc17_10 : w16.cell? ⟨gb495, 10, none⟩ = some (.int .i64 a0_10) := (blk_cell BK495.out 10).trans rfl; have zf17_0 := fz_ BK495 0; have zf17_1 := fz_ BK495 1; have zf17_2 := fz_ BK495 2; have zf17_3 := fz_ BK495 3; have zf17_4 := fz_ BK495 4; have zf17_5 := fz_ BK495 5; have zf17_6 := fz_ BK495 6; have zf17_7 := fz_ BK495 7; have zf17_8 := fz_ BK495 8; have zf17_9 := fz_ BK495 9; have zf17_10 := fz_ BK495 10) | ((with_reducible refine gate_callee (f := 24) rfl ?_); refine gM_ 30 Try.func24 (lockgateref05_Is.calls a0_1 a0_2 a0_3 a0_4 a0_5 a0_6 t496 true _ A13.out) ?_; intro w18 hb; replace BK495 := bb_ hb BK495; replace HB := bl_ hb; (try clear hb); (try clear hb2); (try clear hk); (try clear hi)))
      go_ret
      exact ⟨vv_, bz_⟩
     ·rw [if_neg c15] at H
      have c15b0 : (t496 == 0) = false := beq_eq_false_iff_ne.mpr c15
      have c15b1 : (t496 != 0) = true := bne_iff_ne.mpr c15
      obtain rfl := Option.some.inj H
      go_enter Try.func10, Try.ntmps10
      go_wp2_with (first | ((with_reducible refine gate_dst (N := 5) rfl ?_); (try (refine gate_guard (by rfl) ?_; dsimp only)); refine bx_ 5 #[.int .i64 a0_0, .int .u64 a0_1, .int .u64 a0_2, .int .u64 a0_3, .int .u64 a0_4, .int .i64 a0_5, .int .i64 a0_6, .int .i64 a0_7, .int .i64 a0_8, .int .i64 a0_9, .int .i64 a0_10] 32 ?_; intro gb495 hg w19 BK495 hb; have GW495 := bg_ hg; have GE495 := GW495; replace HB := bl_ hb; clear hb hg; have zc20_0 := c0_ BK495; have zc20_1 := c1_ BK495; have zc20_2 := c2_ BK495; have zc20_3 := c3_ BK495; have zc20_4 := c4_ BK495; have zc20_5 := c5_ BK495; have zc20_6 := c6_ BK495; have zc20_7 := c7_ BK495; have zc20_8 : w19.cell? ⟨gb495, 8, none⟩ = some (.int .i64 a0_8) := (blk_cell BK495.out 8).trans rfl; have zc20_9 : w19.cell? ⟨gb495, 9, none⟩ = some (.int .i64 a0_9) := (blk_cell BK495.out 9).trans rfl; have zc20_10 : w19.cell? ⟨gb495, 10, none⟩ = some (.int .i64 a0_10) := (blk_cell BK495.out 10).trans rfl; have zf20_0 := fz_ BK495 0; have zf20_1 := fz_ BK495 1; have zf20_2 := fz_ BK495 2; have zf20_3 := fz_ BK495 3; have zf20_4 := fz_ BK495 4; have zf20_5 := fz_ BK495 5; have zf20_6 := fz_ BK495 6; have zf20_7 := fz_ BK495 7; have zf20_8 := fz_ BK495 8; have zf20_9 := fz_ BK495 9; have zf20_10 := fz_ BK495 10) | ((with_reducible refine gate_callee (f := 24) rfl ?_); refine gM_ 30 Try.func24 (lockgateref05_Is.calls a0_1 a0_2 a0_3 a0_4 a0_5 a0_6 t496 true _ A13.out) ?_; intro w21 hb; replace BK495 := bb_ hb BK495; replace HB := bl_ hb; (try clear hb); (try clear hb2); (try clear hk); (try clear hi)))
      go_ret
      exact ⟨vv_, bz_⟩
    ·replace c14 := Bool.eq_false_iff.mpr c14
     subst c14
     have H1 : (some 21) = some r := by rw [if_neg (show ¬ (false = true) by decide)] at H; exact H
     clear H
     have H := H1
     clear H1
     obtain rfl := Option.some.inj H
     go_enter Try.func10, Try.ntmps10
     go_wp2_with (first | ((with_reducible refine gate_dst (N := 5) rfl ?_); (try (refine gate_guard (by rfl) ?_; dsimp only)); refine bx_ 5 #[.int .i64 a0_0, .int .u64 a0_1, .int .u64 a0_2, .int .u64 a0_3, .int .u64 a0_4, .int .i64 a0_5, .int .i64 a0_6, .int .i64 a0_7, .int .i64 a0_8, .int .i64 a0_9, .int .i64 a0_10] 32 ?_; intro gb495 hg w22 BK495 hb; have GW495 := bg_ hg; have GE495 := GW495; replace HB := bl_ hb; clear hb hg; have zc23_0 := c0_ BK495; have zc23_1 := c1_ BK495; have zc23_2 := c2_ BK495; have zc23_3 := c3_ BK495; have zc23_4 := c4_ BK495; have zc23_5 := c5_ BK495; have zc23_6 := c6_ BK495; have zc23_7 := c7_ BK495; have zc23_8 : w22.cell? ⟨gb495, 8, none⟩ = some (.int .i64 a0_8) := (blk_cell BK495.out 8).trans rfl; have zc23_9 : w22.cell? ⟨gb495, 9, none⟩ = some (.int .i64 a0_9) := (blk_cell BK495.out 9).trans rfl; have zc23_10 : w22.cell? ⟨gb495, 10, none⟩ = some (.int .i64 a0_10) := (blk_cell BK495.out 10).trans rfl; have zf23_0 := fz_ BK495 0; have zf23_1 := fz_ BK495 1; have zf23_2 := fz_ BK495 2; have zf23_3 := fz_ BK495 3; have zf23_4 := fz_ BK495 4; have zf23_5 := fz_ BK495 5; have zf23_6 := fz_ BK495 6; have zf23_7 := fz_ BK495 7; have zf23_8 := fz_ BK495 8; have zf23_9 := fz_ BK495 9; have zf23_10 := fz_ BK495 10) | ((with_reducible refine gate_callee (f := 24) rfl ?_); refine gM_ 30 Try.func24 (lockgateref05_Is.calls a0_1 a0_2 a0_3 a0_4 a0_5 a0_6 t496 false _ A13.out) ?_; intro w24 hb; replace BK495 := bb_ hb BK495; replace HB := bl_ hb; (try clear hb); (try clear hb2); (try clear hk); (try clear hi)))
     go_ret
     exact ⟨vv_, bz_⟩
   ·rw [if_neg c12] at H
    have c12b0 : (a0_0 == 1) = false := beq_eq_false_iff_ne.mpr c12
    have c12b1 : (a0_0 != 1) = true := bne_iff_ne.mpr c12
    by_cases c25 : a0_0 = 2
    ·rw [if_pos c25] at H
     have c25b0 : (a0_0 == 2) = true := beq_iff_eq.mpr c25
     have c25b1 : (a0_0 != 2) = false := bne_eq_false_iff_eq.mpr c25
     clear c25
     by_cases c26 : a0_9 ≤ 0
     ·rw [if_pos c26] at H
      have c26b0 : decide (a0_9 ≤ 0) = true := decide_eq_true c26
      clear c26
      obtain rfl := Option.some.inj H
      go_enter Try.func10, Try.ntmps10
      go_wp2_with (first | ((with_reducible refine gate_dst (N := 5) rfl ?_); (try (refine gate_guard (by rfl) ?_; dsimp only)); refine bx_ 5 #[.int .i64 a0_0, .int .u64 a0_1, .int .u64 a0_2, .int .u64 a0_3, .int .u64 a0_4, .int .i64 a0_5, .int .i64 a0_6, .int .i64 a0_7, .int .i64 a0_8, .int .i64 a0_9, .int .i64 a0_10] 32 ?_; intro gb495 hg w27 BK495 hb; have GW495 := bg_ hg; have GE495 := GW495; replace HB := bl_ hb; clear hb hg; have zc28_0 := c0_ BK495; have zc28_1 := c1_ BK495; have zc28_2 := c2_ BK495; have zc28_3 := c3_ BK495; have zc28_4 := c4_ BK495; have zc28_5 := c5_ BK495; have zc28_6 := c6_ BK495; have zc28_7 := c7_ BK495; have zc28_8 : w27.cell? ⟨gb495, 8, none⟩ = some (.int .i64 a0_8) := (blk_cell BK495.out 8).trans rfl; have zc28_9 : w27.cell? ⟨gb495, 9, none⟩ = some (.int .i64 a0_9) := (blk_cell BK495.out 9).trans rfl; have zc28_10 : w27.cell? ⟨gb495, 10, none⟩ = some (.int .i64 a0_10) := (blk_cell BK495.out 10).trans rfl; have zf28_0 := fz_ BK495 0; have zf28_1 := fz_ BK495 1; have zf28_2 := fz_ BK495 2; have zf28_3 := fz_ BK495 3; have zf28_4 := fz_ BK495 4; have zf28_5 := fz_ BK495 5; have zf28_6 := fz_ BK495 6; have zf28_7 := fz_ BK495 7; have zf28_8 := fz_ BK495 8; have zf28_9 := fz_ BK495 9; have zf28_10 := fz_ BK495 10))
      go_ret
      exact ⟨vv_, bz_⟩
     ·rw [if_neg c26] at H
      have c26b0 : decide (a0_9 ≤ 0) = false := decide_eq_false c26
      clear c26
      by_cases c29 : (wrap64 (a0_7 + a1)) < 0
      ·rw [if_pos c29] at H
       have c29b0 : decide ((wrap64 (a0_7 + a1)) < 0) = true := decide_eq_true c29
       clear c29
       by_cases c30 : a0_3 < (IntKind.u64.wrap (wrap64 (-(wrap64 (a0_7 + a1)))))
       ·rw [if_pos c30] at H
        have c30b0 : decide (a0_3 < (IntKind.u64.wrap (wrap64 (-(wrap64 (a0_7 + a1)))))) = true := decide_eq_true c30
        clear c30
        obtain rfl := Option.some.inj H
        go_enter Try.func10, Try.ntmps10
        go_wp2_with (first | ((with_reducible refine gate_dst (N := 5) rfl ?_); (try (refine gate_guard (by rfl) ?_; dsimp only)); refine bx_ 5 #[.int .i64 a0_0, .int .u64 a0_1, .int .u64 a0_2, .int .u64 a0_3, .int .u64 a0_4, .int .i64 a0_5, .int .i64 a0_6, .int .i64 a0_7, .int .i64 a0_8, .int .i64 a0_9, .int .i64 a0_10] 32 ?_; intro gb495 hg w31 BK495 hb; have GW495 := bg_ hg; have GE495 := GW495; replace HB := bl_ hb; clear hb hg; have zc32_0 := c0_ BK495; have zc32_1 := c1_ BK495; have zc32_2 := c2_ BK495; have zc32_3 := c3_ BK495; have zc32_4 := c4_ BK495; have zc32_5 := c5_ BK495; have zc32_6 := c6_ BK495; have zc32_7 := c7_ BK495; have zc32_8 : w31.cell? ⟨gb495, 8, none⟩ = some (.int .i64 a0_8) := (blk_cell BK495.out 8).trans rfl; have zc32_9 : w31.cell? ⟨gb495, 9, none⟩ = some (.int .i64 a0_9) := (blk_cell BK495.out 9).trans rfl; have zc32_10 : w31.cell? ⟨gb495, 10, none⟩ = some (.int .i64 a0_10) := (blk_cell BK495.out 10).trans rfl; have zf32_0 := fz_ BK495 0; have zf32_1 := fz_ BK495 1; have zf32_2 := fz_ BK495 2; have zf32_3 := fz_ BK495 3; have zf32_4 := fz_ BK495 4; have zf32_5 := fz_ BK495 5; have zf32_6 := fz_ BK495 6; have zf32_7 := fz_ BK495 7; have zf32_8 := fz_ BK495 8; have zf32_9 := fz_ BK495 9; have zf32_10 := fz_ BK495 10))
        go_ret
        exact ⟨vv_, bz_⟩
       ·rw [if_neg c30] at H
        have c30b0 : decide (a0_3 < (IntKind.u64.wrap (wrap64 (-(wrap64 (a0_7 + a1)))))) = false := decide_eq_false c30
        clear c30
        by_cases c33 : (wrap64 ((wrap64 (a0_7 + a1)) + a2)) > a0_9
        ·rw [if_pos c33] at H
         have c33b0 : decide (a0_9 < (wrap64 ((wrap64 (a0_7 + a1)) + a2))) = true := decide_eq_true c33
         clear c33
         obtain rfl := Option.some.inj H
         go_enter Try.func10, Try.ntmps10
         go_wp2_with (first | ((with_reducible refine gate_dst (N := 5) rfl ?_); (try (refine gate_guard (by rfl) ?_; dsimp only)); refine bx_ 5 #[.int .i64 a0_0, .int .u64 a0_1, .int .u64 a0_2, .int .u64 a0_3, .int .u64 a0_4, .int .i64 a0_5, .int .i64 a0_6, .int .i64 a0_7, .int .i64 a0_8, .int .i64 a0_9, .int .i64 a0_10] 32 ?_; intro gb495 hg w34 BK495 hb; have GW495 := bg_ hg; have GE495 := GW495; replace HB := bl_ hb; clear hb hg; have zc35_0 := c0_ BK495; have zc35_1 := c1_ BK495; have zc35_2 := c2_ BK495; have zc35_3 := c3_ BK495; have zc35_4 := c4_ BK495; have zc35_5 := c5_ BK495; have zc35_6 := c6_ BK495; have zc35_7 := c7_ BK495; have zc35_8 : w34.cell? ⟨gb495, 8, none⟩ = some (.int .i64 a0_8) := (blk_cell BK495.out 8).trans rfl; have zc35_9 : w34.cell? ⟨gb495, 9, none⟩ = some (.int .i64 a0_9) := (blk_cell BK495.out 9).trans rfl; have zc35_10 : w34.cell? ⟨gb495, 10, none⟩ = some (.int .i64 a0_10) := (blk_cell BK495.out 10).trans rfl; have zf35_0 := fz_ BK495 0; have zf35_1 := fz_ BK495 1; have zf35_2 := fz_ BK495 2; have zf35_3 := fz_ BK495 3; have zf35_4 := fz_ BK495 4; have zf35_5 := fz_ BK495 5; have zf35_6 := fz_ BK495 6; have zf35_7 := fz_ BK495 7; have zf35_8 := fz_ BK495 8; have zf35_9 := fz_ BK495 9; have zf35_10 := fz_ BK495 10))
         go_ret
         exact ⟨vv_, bz_⟩
        ·rw [if_neg c33] at H
         have c33b0 : decide (a0_9 < (wrap64 ((wrap64 (a0_7 + a1)) + a2))) = false := decide_eq_false c33
         clear c33
         obtain rfl := Option.some.inj H
         go_enter Try.func10, Try.ntmps10
         go_wp2_with (first | ((with_reducible refine gate_dst (N := 5) rfl ?_); (try (refine gate_guard (by rfl) ?_; dsimp only)); refine bx_ 5 #[.int .i64 a0_0, .int .u64 a0_1, .int .u64 a0_2, .int .u64 a0_3, .int .u64 a0_4, .int .i64 a0_5, .int .i64 a0_6, .int .i64 a0_7, .int .i64 a0_8, .int .i64 a0_9, .int .i64 a0_10] 32 ?_; intro gb495 hg w36 BK495 hb; have GW495 := bg_ hg; have GE495 := GW495; replace HB := bl_ hb; clear hb hg; have zc37_0 := c0_ BK495; have zc37_1 := c1_ BK495; have zc37_2 := c2_ BK495; have zc37_3 := c3_ BK495; have zc37_4 := c4_ BK495; have zc37_5 := c5_ BK495; have zc37_6 := c6_ BK495; have zc37_7 := c7_ BK495; have zc37_8 : w36.cell? ⟨gb495, 8, none⟩ = some (.int .i64 a0_8) := (blk_cell BK495.out 8).trans rfl; have zc37_9 : w36.cell? ⟨gb495, 9, none⟩ = some (.int .i64 a0_9) := (blk_cell BK495.out 9).trans rfl; have zc37_10 : w36.cell? ⟨gb495, 10, none⟩ = some (.int .i64 a0_10) := (blk_cell BK495.out 10).trans rfl; have zf37_0 := fz_ BK495 0; have zf37_1 := fz_ BK495 1; have zf37_2 := fz_ BK495 2; have zf37_3 := fz_ BK495 3; have zf37_4 := fz_ BK495 4; have zf37_5 := fz_ BK495 5; have zf37_6 := fz_ BK495 6; have zf37_7 := fz_ BK495 7; have zf37_8 := fz_ BK495 8; have zf37_9 := fz_ BK495 9; have zf37_10 := fz_ BK495 10))
         go_ret
         exact ⟨vv_, bz_⟩
      ·rw [if_neg c29] at H
       have c29b0 : decide ((wrap64 (a0_7 + a1)) < 0) = false := decide_eq_false c29
       clear c29
       by_cases c38 : (wrap64 ((wrap64 (a0_7 + a1)) + a2)) > a0_9
       ·rw [if_pos c38] at H
        have c38b0 : decide (a0_9 < (wrap64 ((wrap64 (a0_7 + a1)) + a2))) = true := decide_eq_true c38
        clear c38
        obtain rfl := Option.some.inj H
        go_enter Try.func10, Try.ntmps10
        go_wp2_with (first | ((with_reducible refine gate_dst (N := 5) rfl ?_); (try (refine gate_guard (by rfl) ?_; dsimp only)); refine bx_ 5 #[.int .i64 a0_0, .int .u64 a0_1, .int .u64 a0_2, .int .u64 a0_3, .int .u64 a0_4, .int .i64 a0_5, .int .i64 a0_6, .int .i64 a0_7, .int .i64 a0_8, .int .i64 a0_9, .int .i64 a0_10] 32 ?_; intro gb495 hg w39 BK495 hb; have GW495 := bg_ hg; have GE495 := GW495; replace HB := bl_ hb; clear hb hg; have zc40_0 := c0_ BK495; have zc40_1 := c1_ BK495; have zc40_2 := c2_ BK495; have zc40_3 := c3_ BK495; have zc40_4 := c4_ BK495; have zc40_5 := c5_ BK495; have zc40_6 := c6_ BK495; have zc40_7 := c7_ BK495; have zc40_8 : w39.cell? ⟨gb495, 8, none⟩ = some (.int .i64 a0_8) := (blk_cell BK495.out 8).trans rfl; have zc40_9 : w39.cell? ⟨gb495, 9, none⟩ = some (.int .i64 a0_9) := (blk_cell BK495.out 9).trans rfl; have zc40_10 : w39.cell? ⟨gb495, 10, none⟩ = some (.int .i64 a0_10) := (blk_cell BK495.out 10).trans rfl; have zf40_0 := fz_ BK495 0; have zf40_1 := fz_ BK495 1; have zf40_2 := fz_ BK495 2; have zf40_3 := fz_ BK495 3; have zf40_4 := fz_ BK495 4; have zf40_5 := fz_ BK495 5; have zf40_6 := fz_ BK495 6; have zf40_7 := fz_ BK495 7; have zf40_8 := fz_ BK495 8; have zf40_9 := fz_ BK495 9; have zf40_10 := fz_ BK495 10))
        go_ret
        exact ⟨vv_, bz_⟩
       ·rw [if_neg c38] at H
        have c38b0 : decide (a0_9 < (wrap64 ((wrap64 (a0_7 + a1)) + a2))) = false := decide_eq_false c38
        clear c38
        obtain rfl := Option.some.inj H
        go_enter Try.func10, Try.ntmps10
        go_wp2_with (first | ((with_reducible refine gate_dst (N := 5) rfl ?_); (try (refine gate_guard (by rfl) ?_; dsimp only)); refine bx_ 5 #[.int .i64 a0_0, .int .u64 a0_1, .int .u64 a0_2, .int .u64 a0_3, .int .u64 a0_4, .int .i64 a0_5, .int .i64 a0_6, .int .i64 a0_7, .int .i64 a0_8, .int .i64 a0_9, .int .i64 a0_10] 32 ?_; intro gb495 hg w41 BK495 hb; have GW495 := bg_ hg; have GE495 := GW495; replace HB := bl_ hb; clear hb hg; have zc42_0 := c0_ BK495; have zc42_1 := c1_ BK495; have zc42_2 := c2_ BK495; have zc42_3 := c3_ BK495; have zc42_4 := c4_ BK495; have zc42_5 := c5_ BK495; have zc42_6 := c6_ BK495; have zc42_7 := c7_ BK495; have zc42_8 : w41.cell? ⟨gb495, 8, none⟩ = some (.int .i64 a0_8) := (blk_cell BK495.out 8).trans rfl; have zc42_9 : w41.cell? ⟨gb495, 9, none⟩ = some (.int .i64 a0_9) := (blk_cell BK495.out 9).trans rfl; have zc42_10 : w41.cell? ⟨gb495, 10, none⟩ = some (.int .i64 a0_10) := (blk_cell BK495.out 10).trans rfl; have zf42_0 := fz_ BK495 0; have zf42_1 := fz_ BK495 1; have zf42_2 := fz_ BK495 2; have zf42_3 := fz_ BK495 3; have zf42_4 := fz_ BK495 4; have zf42_5 := fz_ BK495 5; have zf42_6 := fz_ BK495 6; have zf42_7 := fz_ BK495 7; have zf42_8 := fz_ BK495 8; have zf42_9 := fz_ BK495 9; have zf42_10 := fz_ BK495 10))
        go_ret
        exact ⟨vv_, bz_⟩
    ·rw [if_neg c25] at H
     have c25b0 : (a0_0 == 2) = false := beq_eq_false_iff_ne.mpr c25
     have c25b1 : (a0_0 != 2) = true := bne_iff_ne.mpr c25
     by_cases c43 : a0_0 = 6
     ·rw [if_pos c43] at H
      have c43b0 : (a0_0 == 6) = true := beq_iff_eq.mpr c43
      have c43b1 : (a0_0 != 6) = false := bne_eq_false_iff_eq.mpr c43
      clear c43
      have HC44 := Aside0.mk H
      clear H
      go_enter Try.func10, Try.ntmps10
      go_upto_region 17 with (first | ((with_reducible refine gate_dst (N := 5) rfl ?_); (try (refine gate_guard (by rfl) ?_; dsimp only)); refine bx_ 5 #[.int .i64 a0_0, .int .u64 a0_1, .int .u64 a0_2, .int .u64 a0_3, .int .u64 a0_4, .int .i64 a0_5, .int .i64 a0_6, .int .i64 a0_7, .int .i64 a0_8, .int .i64 a0_9, .int .i64 a0_10] 32 ?_; intro gb495 hg w45 BK495 hb; have GW495 := bg_ hg; have GE495 := GW495; replace HB := bl_ hb; clear hb hg; have zc46_0 := c0_ BK495; have zc46_1 := c1_ BK495; have zc46_2 := c2_ BK495; have zc46_3 := c3_ BK495; have zc46_4 := c4_ BK495; have zc46_5 := c5_ BK495; have zc46_6 := c6_ BK495; have zc46_7 := c7_ BK495; have zc46_8 : w45.cell? ⟨gb495, 8, none⟩ = some (.int .i64 a0_8) := (blk_cell BK495.out 8).trans rfl; have zc46_9 : w45.cell? ⟨gb495, 9, none⟩ = some (.int .i64 a0_9) := (blk_cell BK495.out 9).trans rfl; have zc46_10 : w45.cell? ⟨gb495, 10, none⟩ = some (.int .i64 a0_10) := (blk_cell BK495.out 10).trans rfl; have zf46_0 := fz_ BK495 0; have zf46_1 := fz_ BK495 1; have zf46_2 := fz_ BK495 2; have zf46_3 := fz_ BK495 3; have zf46_4 := fz_ BK495 4; have zf46_5 := fz_ BK495 5; have zf46_6 := fz_ BK495 6; have zf46_7 := fz_ BK495 7; have zf46_8 := fz_ BK495 8; have zf46_9 := fz_ BK495 9; have zf46_10 := fz_ BK495 10))
      (try simp only [Act.put, s1_, s2_, s3_])
      go_cut [90] (fun v90 wc => ∃ (kq : Nat) (x90_43 : Bool), v90 = .bool x90_43 ∧ Aside0 (lockgateref18_Access.j0 kq a2 l4 (wrap64 (a0_7 + a1)) x90_43 a0_0 a0_1 a0_2 a0_3 a0_4 a0_5 a0_6 a0_7 a0_8 a0_9 a0_10 = some r) ∧ Aside0 (kq ≤ k) ∧ Aside0 (wc.heap[gb495]? = some (.cells #[.int .i64 a0_0, .int .u64 a0_1, .int .u64 a0_2, .int .u64 a0_3, .int .u64 a0_4, .int .i64 a0_5, .int .i64 a0_6, .int .i64 a0_7, .int .i64 a0_8, .int .i64 a0_9, .int .i64 a0_10] 32 (0, 0))) ∧ Aside0 (Below w.heap.size w wc))
      case first =>
       have H := HC44.out
       clear HC44
       by_cases c47 : a0_10 < 1
       ·rw [if_pos c47] at H
        have c47b0 : decide (a0_10 < 1) = true := decide_eq_true c47
        clear c47
        (first | rw [c47b0] | (simp only [i64_w, i32_w]; rw [c47b0]) | skip)
        have H' := Aside0.mk H
        clear H
        have zc48_0 := c0_ BK495
        have zc48_1 := c1_ BK495
        have zc48_2 := c2_ BK495
        have zc48_3 := c3_ BK495
        have zc48_4 := c4_ BK495
        have zc48_5 := c5_ BK495
        have zc48_6 := c6_ BK495
        have zc48_7 := c7_ BK495
        have zc48_8 : w45.cell? ⟨gb495, 8, none⟩ = some (.int .i64 a0_8) := (blk_cell BK495.out 8).trans rfl
        have zc48_9 : w45.cell? ⟨gb495, 9, none⟩ = some (.int .i64 a0_9) := (blk_cell BK495.out 9).trans rfl
        have zc48_10 : w45.cell? ⟨gb495, 10, none⟩ = some (.int .i64 a0_10) := (blk_cell BK495.out 10).trans rfl
        have zf48_0 := fz_ BK495 0
        have zf48_1 := fz_ BK495 1
        have zf48_2 := fz_ BK495 2
        have zf48_3 := fz_ BK495 3
        have zf48_4 := fz_ BK495 4
        have zf48_5 := fz_ BK495 5
        have zf48_6 := fz_ BK495 6
        have zf48_7 := fz_ BK495 7
        have zf48_8 := fz_ BK495 8
        have zf48_9 := fz_ BK495 9
        have zf48_10 := fz_ BK495 10
        go_wp2
        go_meet
        case rel => exact ⟨_, (true), (by first | rfl | (simp; done) | (simp [*]; done)), H', ⟨by first | omega | exact Nat.le_refl _⟩, ⟨bk_⟩, ⟨bz_⟩⟩
       ·rw [if_neg c47] at H
        have c47b0 : decide (a0_10 < 1) = false := decide_eq_false c47
        clear c47
        (first | rw [c47b0] | (simp only [i64_w, i32_w]; rw [c47b0]) | skip)
        by_cases c49 : a0_10 > (l4.length : Int)
        ·rw [if_pos c49] at H
         have c49b0 : decide ((l4.length : Int) < a0_10) = true := decide_eq_true c49
         clear c49
         have H' := Aside0.mk H
         clear H
         have zc50_0 := c0_ BK495
         have zc50_1 := c1_ BK495
         have zc50_2 := c2_ BK495
         have zc50_3 := c3_ BK495
         have zc50_4 := c4_ BK495
         have zc50_5 := c5_ BK495
         have zc50_6 := c6_ BK495
         have zc50_7 := c7_ BK495
         have zc50_8 : w45.cell? ⟨gb495, 8, none⟩ = some (.int .i64 a0_8) := (blk_cell BK495.out 8).trans rfl
         have zc50_9 : w45.cell? ⟨gb495, 9, none⟩ = some (.int .i64 a0_9) := (blk_cell BK495.out 9).trans rfl
         have zc50_10 : w45.cell? ⟨gb495, 10, none⟩ = some (.int .i64 a0_10) := (blk_cell BK495.out 10).trans rfl
         have zf50_0 := fz_ BK495 0
         have zf50_1 := fz_ BK495 1
         have zf50_2 := fz_ BK495 2
         have zf50_3 := fz_ BK495 3
         have zf50_4 := fz_ BK495 4
         have zf50_5 := fz_ BK495 5
         have zf50_6 := fz_ BK495 6
         have zf50_7 := fz_ BK495 7
         have zf50_8 := fz_ BK495 8
         have zf50_9 := fz_ BK495 9
         have zf50_10 := fz_ BK495 10
         go_wp2
         go_meet
         case rel => exact ⟨_, (true), (by first | rfl | (simp; done) | (simp [*]; done)), H', ⟨by first | omega | exact Nat.le_refl _⟩, ⟨bk_⟩, ⟨bz_⟩⟩
        ·rw [if_neg c49] at H
         have c49b0 : decide ((l4.length : Int) < a0_10) = false := decide_eq_false c49
         clear c49
         by_cases c51 : (wrap64 (a0_7 + a1)) < 0
         ·rw [if_pos c51] at H
          have c51b0 : decide ((wrap64 (a0_7 + a1)) < 0) = true := decide_eq_true c51
          clear c51
          have H' := Aside0.mk H
          clear H
          have zc52_0 := c0_ BK495
          have zc52_1 := c1_ BK495
          have zc52_2 := c2_ BK495
          have zc52_3 := c3_ BK495
          have zc52_4 := c4_ BK495
          have zc52_5 := c5_ BK495
          have zc52_6 := c6_ BK495
          have zc52_7 := c7_ BK495
          have zc52_8 : w45.cell? ⟨gb495, 8, none⟩ = some (.int .i64 a0_8) := (blk_cell BK495.out 8).trans rfl
          have zc52_9 : w45.cell? ⟨gb495, 9, none⟩ = some (.int .i64 a0_9) := (blk_cell BK495.out 9).trans rfl
          have zc52_10 : w45.cell? ⟨gb495, 10, none⟩ = some (.int .i64 a0_10) := (blk_cell BK495.out 10).trans rfl
          have zf52_0 := fz_ BK495 0
          have zf52_1 := fz_ BK495 1
          have zf52_2 := fz_ BK495 2
          have zf52_3 := fz_ BK495 3
          have zf52_4 := fz_ BK495 4
          have zf52_5 := fz_ BK495 5
          have zf52_6 := fz_ BK495 6
          have zf52_7 := fz_ BK495 7
          have zf52_8 := fz_ BK495 8
          have zf52_9 := fz_ BK495 9
          have zf52_10 := fz_ BK495 10
          go_wp2
          go_meet
          case rel => exact ⟨_, (decide (a0_3 < (IntKind.u64.wrap (wrap64 (-(wrap64 (a0_7 + a1))))))), (by first | rfl | (simp; done) | (simp [*]; done)), H', ⟨by first | omega | exact Nat.le_refl _⟩, ⟨bk_⟩, ⟨bz_⟩⟩
         ·rw [if_neg c51] at H
          have c51b0 : decide ((wrap64 (a0_7 + a1)) < 0) = false := decide_eq_false c51
          clear c51
          have H' := Aside0.mk H
          clear H
          have zc53_0 := c0_ BK495
          have zc53_1 := c1_ BK495
          have zc53_2 := c2_ BK495
          have zc53_3 := c3_ BK495
          have zc53_4 := c4_ BK495
          have zc53_5 := c5_ BK495
          have zc53_6 := c6_ BK495
          have zc53_7 := c7_ BK495
          have zc53_8 : w45.cell? ⟨gb495, 8, none⟩ = some (.int .i64 a0_8) := (blk_cell BK495.out 8).trans rfl
          have zc53_9 : w45.cell? ⟨gb495, 9, none⟩ = some (.int .i64 a0_9) := (blk_cell BK495.out 9).trans rfl
          have zc53_10 : w45.cell? ⟨gb495, 10, none⟩ = some (.int .i64 a0_10) := (blk_cell BK495.out 10).trans rfl
          have zf53_0 := fz_ BK495 0
          have zf53_1 := fz_ BK495 1
          have zf53_2 := fz_ BK495 2
          have zf53_3 := fz_ BK495 3
          have zf53_4 := fz_ BK495 4
          have zf53_5 := fz_ BK495 5
          have zf53_6 := fz_ BK495 6
          have zf53_7 := fz_ BK495 7
          have zf53_8 := fz_ BK495 8
          have zf53_9 := fz_ BK495 9
          have zf53_10 := fz_ BK495 10
          go_wp2
          go_meet
          case rel => exact ⟨_, (false), (by first | rfl | (simp; done) | (simp [*]; done)), H', ⟨by first | omega | exact Nat.le_refl _⟩, ⟨bk_⟩, ⟨bz_⟩⟩
      case rest =>
       clear HC44
       try clear c1
       try clear c2
       try clear p2
       try clear c3
       try clear c4
       try clear c5
       try clear c6
       try clear c6b0
       try clear c6b1
       try clear p6
       try clear c9
       try clear c9b0
       try clear c9b1
       try clear c10
       try clear c12
       try clear c12b0
       try clear c12b1
       try clear c14
       try clear c15
       try clear c15b0
       try clear c15b1
       try clear c24
       try clear c25
       try clear c25b0
       try clear c25b1
       try clear c26
       try clear c26b0
       try clear c29
       try clear c29b0
       try clear c30
       try clear c30b0
       try clear c33
       try clear c33b0
       try clear c38
       try clear c38b0
       try clear c43
       try clear c43b0
       try clear c43b1
       try clear c47
       try clear c47b0
       try clear c49
       try clear c49b0
       try clear c51
       try clear c51b0
       try clear zc11_0
       try clear zc11_1
       try clear zc11_10
       try clear zc11_2
       try clear zc11_3
       try clear zc11_4
       try clear zc11_5
       try clear zc11_6
       try clear zc11_7
       try clear zc11_8
       try clear zc11_9
       try clear zc17_0
       try clear zc17_1
       try clear zc17_10
       try clear zc17_2
       try clear zc17_3
       try clear zc17_4
       try clear zc17_5
       try clear zc17_6
       try clear zc17_7
       try clear zc17_8
       try clear zc17_9
       try clear zc20_0
       try clear zc20_1
       try clear zc20_10
       try clear zc20_2
       try clear zc20_3
       try clear zc20_4
       try clear zc20_5
       try clear zc20_6
       try clear zc20_7
       try clear zc20_8
       try clear zc20_9
       try clear zc23_0
       try clear zc23_1
       try clear zc23_10
       try clear zc23_2
       try clear zc23_3
       try clear zc23_4
       try clear zc23_5
       try clear zc23_6
       try clear zc23_7
       try clear zc23_8
       try clear zc23_9
       try clear zc28_0
       try clear zc28_1
       try clear zc28_10
       try clear zc28_2
       try clear zc28_3
       try clear zc28_4
       try clear zc28_5
       try clear zc28_6
       try clear zc28_7
       try clear zc28_8
       try clear zc28_9
       try clear zc32_0
       try clear zc32_1
       try clear zc32_10
       try clear zc32_2
       try clear zc32_3
       try clear zc32_4
       try clear zc32_5
       try clear zc32_6
       try clear zc32_7
       try clear zc32_8
       try clear zc32_9
       try clear zc35_0
       try clear zc35_1
       try clear zc35_10
       try clear zc35_2
       try clear zc35_3
       try clear zc35_4
       try clear zc35_5
       try clear zc35_6
       try clear zc35_7
       try clear zc35_8
       try clear zc35_9
       try clear zc37_0
       try clear zc37_1
       try clear zc37_10
       try clear zc37_2
       try clear zc37_3
       try clear zc37_4
       try clear zc37_5
       try clear zc37_6
       try clear zc37_7
       try clear zc37_8
       try clear zc37_9
       try clear zc40_0
       try clear zc40_1
       try clear zc40_10
       try clear zc40_2
       try clear zc40_3
       try clear zc40_4
       try clear zc40_5
       try clear zc40_6
       try clear zc40_7
       try clear zc40_8
       try clear zc40_9
       try clear zc42_0
       try clear zc42_1
       try clear zc42_10
       try clear zc42_2
       try clear zc42_3
       try clear zc42_4
       try clear zc42_5
       try clear zc42_6
       try clear zc42_7
       try clear zc42_8
       try clear zc42_9
       try clear zc46_0
       try clear zc46_1
       try clear zc46_10
       try clear zc46_2
       try clear zc46_3
       try clear zc46_4
       try clear zc46_5
       try clear zc46_6
       try clear zc46_7
       try clear zc46_8
       try clear zc46_9
       try clear zc48_0
       try clear zc48_1
       try clear zc48_10
       try clear zc48_2
       try clear zc48_3
       try clear zc48_4
       try clear zc48_5
       try clear zc48_6
       try clear zc48_7
       try clear zc48_8
       try clear zc48_9
       try clear zc50_0
       try clear zc50_1
       try clear zc50_10
       try clear zc50_2
       try clear zc50_3
       try clear zc50_4
       try clear zc50_5
       try clear zc50_6
       try clear zc50_7
       try clear zc50_8
       try clear zc50_9
       try clear zc52_0
       try clear zc52_1
       try clear zc52_10
       try clear zc52_2
       try clear zc52_3
       try clear zc52_4
       try clear zc52_5
       try clear zc52_6
       try clear zc52_7
       try clear zc52_8
       try clear zc52_9
       try clear zc53_0
       try clear zc53_1
       try clear zc53_10
       try clear zc53_2
       try clear zc53_3
       try clear zc53_4
       try clear zc53_5
       try clear zc53_6
       try clear zc53_7
       try clear zc53_8
       try clear zc53_9
       try clear zc8_0
       try clear zc8_1
       try clear zc8_10
       try clear zc8_2
       try clear zc8_3
       try clear zc8_4
       try clear zc8_5
       try clear zc8_6
       try clear zc8_7
       try clear zc8_8
       try clear zc8_9
       try clear zf11_0
       try clear zf11_1
       try clear zf11_10
       try clear zf11_2
       try clear zf11_3
       try clear zf11_4
       try clear zf11_5
       try clear zf11_6
       try clear zf11_7
       try clear zf11_8
       try clear zf11_9
       try clear zf17_0
       try clear zf17_1
       try clear zf17_10
       try clear zf17_2
       try clear zf17_3
       try clear zf17_4
       try clear zf17_5
       try clear zf17_6
       try clear zf17_7
       try clear zf17_8
       try clear zf17_9
       try clear zf20_0
       try clear zf20_1
       try clear zf20_10
       try clear zf20_2
       try clear zf20_3
       try clear zf20_4
       try clear zf20_5
       try clear zf20_6
       try clear zf20_7
       try clear zf20_8
       try clear zf20_9
       try clear zf23_0
       try clear zf23_1
       try clear zf23_10
       try clear zf23_2
       try clear zf23_3
       try clear zf23_4
       try clear zf23_5
       try clear zf23_6
       try clear zf23_7
       try clear zf23_8
       try clear zf23_9
       try clear zf28_0
       try clear zf28_1
       try clear zf28_10
       try clear zf28_2
       try clear zf28_3
       try clear zf28_4
       try clear zf28_5
       try clear zf28_6
       try clear zf28_7
       try clear zf28_8
       try clear zf28_9
       try clear zf32_0
       try clear zf32_1
       try clear zf32_10
       try clear zf32_2
       try clear zf32_3
       try clear zf32_4
       try clear zf32_5
       try clear zf32_6
       try clear zf32_7
       try clear zf32_8
       try clear zf32_9
       try clear zf35_0
       try clear zf35_1
       try clear zf35_10
       try clear zf35_2
       try clear zf35_3
       try clear zf35_4
       try clear zf35_5
       try clear zf35_6
       try clear zf35_7
       try clear zf35_8
       try clear zf35_9
       try clear zf37_0
       try clear zf37_1
       try clear zf37_10
       try clear zf37_2
       try clear zf37_3
       try clear zf37_4
       try clear zf37_5
       try clear zf37_6
       try clear zf37_7
       try clear zf37_8
       try clear zf37_9
       try clear zf40_0
       try clear zf40_1
       try clear zf40_10
       try clear zf40_2
       try clear zf40_3
       try clear zf40_4
       try clear zf40_5
       try clear zf40_6
       try clear zf40_7
       try clear zf40_8
       try clear zf40_9
       try clear zf42_0
       try clear zf42_1
       try clear zf42_10
       try clear zf42_2
       try clear zf42_3
       try clear zf42_4
       try clear zf42_5
       try clear zf42_6
       try clear zf42_7
       try clear zf42_8
       try clear zf42_9
       try clear zf46_0
       try clear zf46_1
       try clear zf46_10
       try clear zf46_2
       try clear zf46_3
       try clear zf46_4
       try clear zf46_5
       try clear zf46_6
       try clear zf46_7
       try clear zf46_8
       try clear zf46_9
       try clear zf48_0
       try clear zf48_1
       try clear zf48_10
       try clear zf48_2
       try clear zf48_3
       try clear zf48_4
       try clear zf48_5
       try clear zf48_6
       try clear zf48_7
       try clear zf48_8
       try clear zf48_9
       try clear zf50_0
       try clear zf50_1
       try clear zf50_10
       try clear zf50_2
       try clear zf50_3
       try clear zf50_4
       try clear zf50_5
       try clear zf50_6
       try clear zf50_7
       try clear zf50_8
       try clear zf50_9
       try clear zf52_0
       try clear zf52_1
       try clear zf52_10
       try clear zf52_2
       try clear zf52_3
       try clear zf52_4
       try clear zf52_5
       try clear zf52_6
       try clear zf52_7
       try clear zf52_8
       try clear zf52_9
       try clear zf53_0
       try clear zf53_1
       try clear zf53_10
       try clear zf53_2
       try clear zf53_3
       try clear zf53_4
       try clear zf53_5
       try clear zf53_6
       try clear zf53_7
       try clear zf53_8
       try clear zf53_9
       try clear zf8_0
       try clear zf8_1
       try clear zf8_10
       try clear zf8_2
       try clear zf8_3
       try clear zf8_4
       try clear zf8_5
       try clear zf8_6
       try clear zf8_7
       try clear zf8_8
       try clear zf8_9
       obtain ⟨kq, x90_43, rfl, HA, HJ43, BK495, HB⟩ := hcut
       cases kq with
       | zero => exact absurd HA.out (by simp [lockgateref18_Access.j0])
       | succ kj43 =>
        have H := HA.out
        clear HA
        simp only [lockgateref18_Access.j0] at H
        by_cases c54 : x90_43 = true
        ·subst c54
         have H1 : (some 22) = some r := by rw [if_pos rfl] at H; exact H
         clear H
         have H := H1
         clear H1
         obtain rfl := Option.some.inj H
         go_wp2
         go_ret
         exact ⟨vv_, bz_⟩
        ·replace c54 := Bool.eq_false_iff.mpr c54
         subst c54
         have H1 : (if 0 ≤ (wrap64 (a0_10 - 1)) then (if (wrap64 (a0_10 - 1)) < (l4.length : Int) then (if (wrap64 ((wrap64 (((rd_T37 l4 (wrap64 (a0_10 - 1))).f2) - (wrap64 (a0_7 + a1)))) - a2)) < 0 then (some 22) else (if a0_4 > (IntKind.u64.wrap (wrap64 ((wrap64 (((rd_T37 l4 (wrap64 (a0_10 - 1))).f2) - (wrap64 (a0_7 + a1)))) - a2))) then (some 22) else (some 0))) else (none)) else (none)) = some r := by rw [if_neg (show ¬ (false = true) by decide)] at H; exact H
         clear H
         have H := H1
         clear H1
         obtain ⟨ji55, hji55⟩ : ∃ j_ : Int, (wrap64 (a0_10 - 1)) = j_ := ⟨_, rfl⟩
         replace H : (if 0 ≤ (ji55) then (if (ji55) < (l4.length : Int) then (if (wrap64 ((wrap64 (((rd_T37 l4 (ji55)).f2) - (wrap64 (a0_7 + a1)))) - a2)) < 0 then (some 22) else (if a0_4 > (IntKind.u64.wrap (wrap64 ((wrap64 (((rd_T37 l4 (ji55)).f2) - (wrap64 (a0_7 + a1)))) - a2))) then (some 22) else (some 0))) else (none)) else (none)) = some r := by first | (rw [hji55] at H; exact H) | (simp only [hji55] at H ⊢; exact H)
         have hji55w : (IntKind.i64.wrap (a0_10 - 1)) = ji55 := (i64_w _).trans hji55
         by_cases c56 : 0 ≤ (ji55)
         ·rw [if_pos c56] at H
          have c56b0 : decide (0 ≤ (ji55)) = true := decide_eq_true c56
          clear c56
          by_cases c57 : (ji55) < (l4.length : Int)
          ·rw [if_pos c57] at H
           have c57b0 : decide ((ji55) < (l4.length : Int)) = true := decide_eq_true c57
           clear c57
           by_cases c58 : (wrap64 ((wrap64 (((rd_T37 l4 (ji55)).f2) - (wrap64 (a0_7 + a1)))) - a2)) < 0
           ·rw [if_pos c58] at H
            have c58b0 : decide ((wrap64 ((wrap64 (((rd_T37 l4 (ji55)).f2) - (wrap64 (a0_7 + a1)))) - a2)) < 0) = true := decide_eq_true c58
            clear c58
            obtain rfl := Option.some.inj H
            have zc59_0 := c0_ BK495
            have zc59_1 := c1_ BK495
            have zc59_2 := c2_ BK495
            have zc59_3 := c3_ BK495
            have zc59_4 := c4_ BK495
            have zc59_5 := c5_ BK495
            have zc59_6 := c6_ BK495
            have zc59_7 := c7_ BK495
            have zc59_8 : wc.cell? ⟨gb495, 8, none⟩ = some (.int .i64 a0_8) := (blk_cell BK495.out 8).trans rfl
            have zc59_9 : wc.cell? ⟨gb495, 9, none⟩ = some (.int .i64 a0_9) := (blk_cell BK495.out 9).trans rfl
            have zc59_10 : wc.cell? ⟨gb495, 10, none⟩ = some (.int .i64 a0_10) := (blk_cell BK495.out 10).trans rfl
            have zf59_0 := fz_ BK495 0
            have zf59_1 := fz_ BK495 1
            have zf59_2 := fz_ BK495 2
            have zf59_3 := fz_ BK495 3
            have zf59_4 := fz_ BK495 4
            have zf59_5 := fz_ BK495 5
            have zf59_6 := fz_ BK495 6
            have zf59_7 := fz_ BK495 7
            have zf59_8 := fz_ BK495 8
            have zf59_9 := fz_ BK495 9
            have zf59_10 := fz_ BK495 10
            have p498 : 0 ≤ ((ji55) : Int) := of_decide_eq_true (by first | (with_reducible assumption) | assumption)
            have q498 : (ji55) < (l4.length : Int) := of_decide_eq_true (by first | (with_reducible assumption) | assumption)
            obtain ⟨ad498, e498, hx498_0, hx498_1, hx498_2, hx498_3⟩ := at_T37 HR4.out (ji55) p498 q498
            cases e498
            replace hx498_0 := (HB.out.cell (World.block_lt_of_cell? w _ hx498_0)).trans hx498_0
            replace hx498_1 := (HB.out.cell (World.block_lt_of_cell? w _ hx498_1)).trans hx498_1
            replace hx498_2 := (HB.out.cell (World.block_lt_of_cell? w _ hx498_2)).trans hx498_2
            replace hx498_3 := (HB.out.cell (World.block_lt_of_cell? w _ hx498_3)).trans hx498_3
            replace p498 := eq_true p498
            replace q498 := eq_true q498
            go_wp2
            go_ret
            exact ⟨by first | rfl | (simp [errW_none, errW_some] <;> rfl) | (simp only [← hji55]; first | rfl | (simp [errW_none, errW_some] <;> rfl)) | (simp [*, errW_none, errW_some] <;> rfl), bz_⟩
           ·rw [if_neg c58] at H
            have c58b0 : decide ((wrap64 ((wrap64 (((rd_T37 l4 (ji55)).f2) - (wrap64 (a0_7 + a1)))) - a2)) < 0) = false := decide_eq_false c58
            clear c58
            by_cases c60 : a0_4 > (IntKind.u64.wrap (wrap64 ((wrap64 (((rd_T37 l4 (ji55)).f2) - (wrap64 (a0_7 + a1)))) - a2)))
            ·rw [if_pos c60] at H
             have c60b0 : decide ((IntKind.u64.wrap (wrap64 ((wrap64 (((rd_T37 l4 (ji55)).f2) - (wrap64 (a0_7 + a1)))) - a2))) < a0_4) = true := decide_eq_true c60
             clear c60
             obtain rfl := Option.some.inj H
             have zc61_0 := c0_ BK495
             have zc61_1 := c1_ BK495
             have zc61_2 := c2_ BK495
             have zc61_3 := c3_ BK495
             have zc61_4 := c4_ BK495
             have zc61_5 := c5_ BK495
             have zc61_6 := c6_ BK495
             have zc61_7 := c7_ BK495
             have zc61_8 : wc.cell? ⟨gb495, 8, none⟩ = some (.int .i64 a0_8) := (blk_cell BK495.out 8).trans rfl
             have zc61_9 : wc.cell? ⟨gb495, 9, none⟩ = some (.int .i64 a0_9) := (blk_cell BK495.out 9).trans rfl
             have zc61_10 : wc.cell? ⟨gb495, 10, none⟩ = some (.int .i64 a0_10) := (blk_cell BK495.out 10).trans rfl
             have zf61_0 := fz_ BK495 0
             have zf61_1 := fz_ BK495 1
             have zf61_2 := fz_ BK495 2
             have zf61_3 := fz_ BK495 3
             have zf61_4 := fz_ BK495 4
             have zf61_5 := fz_ BK495 5
             have zf61_6 := fz_ BK495 6
             have zf61_7 := fz_ BK495 7
             have zf61_8 := fz_ BK495 8
             have zf61_9 := fz_ BK495 9
             have zf61_10 := fz_ BK495 10
             have p498 : 0 ≤ ((ji55) : Int) := of_decide_eq_true (by first | (with_reducible assumption) | assumption)
             have q498 : (ji55) < (l4.length : Int) := of_decide_eq_true (by first | (with_reducible assumption) | assumption)
             obtain ⟨ad498, e498, hx498_0, hx498_1, hx498_2, hx498_3⟩ := at_T37 HR4.out (ji55) p498 q498
             cases e498
             replace hx498_0 := (HB.out.cell (World.block_lt_of_cell? w _ hx498_0)).trans hx498_0
             replace hx498_1 := (HB.out.cell (World.block_lt_of_cell? w _ hx498_1)).trans hx498_1
             replace hx498_2 := (HB.out.cell (World.block_lt_of_cell? w _ hx498_2)).trans hx498_2
             replace hx498_3 := (HB.out.cell (World.block_lt_of_cell? w _ hx498_3)).trans hx498_3
             replace p498 := eq_true p498
             replace q498 := eq_true q498
             go_wp2
             go_ret
             exact ⟨by first | rfl | (simp [errW_none, errW_some] <;> rfl) | (simp only [← hji55]; first | rfl | (simp [errW_none, errW_some] <;> rfl)) | (simp [*, errW_none, errW_some] <;> rfl), bz_⟩
            ·rw [if_neg c60] at H
             have c60b0 : decide ((IntKind.u64.wrap (wrap64 ((wrap64 (((rd_T37 l4 (ji55)).f2) - (wrap64 (a0_7 + a1)))) - a2))) < a0_4) = false := decide_eq_false c60
             clear c60
             obtain rfl := Option.some.inj H
             have zc62_0 := c0_ BK495
             have zc62_1 := c1_ BK495
             have zc62_2 := c2_ BK495
             have zc62_3 := c3_ BK495
             have zc62_4 := c4_ BK495
             have zc62_5 := c5_ BK495
             have zc62_6 := c6_ BK495
             have zc62_7 := c7_ BK495
             have zc62_8 : wc.cell? ⟨gb495, 8, none⟩ = some (.int .i64 a0_8) := (blk_cell BK495.out 8).trans rfl
             have zc62_9 : wc.cell? ⟨gb495, 9, none⟩ = some (.int .i64 a0_9) := (blk_cell BK495.out 9).trans rfl
             have zc62_10 : wc.cell? ⟨gb495, 10, none⟩ = some (.int .i64 a0_10) := (blk_cell BK495.out 10).trans rfl
             have zf62_0 := fz_ BK495 0
             have zf62_1 := fz_ BK495 1
             have zf62_2 := fz_ BK495 2
             have zf62_3 := fz_ BK495 3
             have zf62_4 := fz_ BK495 4
             have zf62_5 := fz_ BK495 5
             have zf62_6 := fz_ BK495 6
             have zf62_7 := fz_ BK495 7
             have zf62_8 := fz_ BK495 8
             have zf62_9 := fz_ BK495 9
             have zf62_10 := fz_ BK495 10
             have p498 : 0 ≤ ((ji55) : Int) := of_decide_eq_true (by first | (with_reducible assumption) | assumption)
             have q498 : (ji55) < (l4.length : Int) := of_decide_eq_true (by first | (with_reducible assumption) | assumption)
             obtain ⟨ad498, e498, hx498_0, hx498_1, hx498_2, hx498_3⟩ := at_T37 HR4.out (ji55) p498 q498
             cases e498
             replace hx498_0 := (HB.out.cell (World.block_lt_of_cell? w _ hx498_0)).trans hx498_0
             replace hx498_1 := (HB.out.cell (World.block_lt_of_cell? w _ hx498_1)).trans hx498_1
             replace hx498_2 := (HB.out.cell (World.block_lt_of_cell? w _ hx498_2)).trans hx498_2
             replace hx498_3 := (HB.out.cell (World.block_lt_of_cell? w _ hx498_3)).trans hx498_3
             replace p498 := eq_true p498
             replace q498 := eq_true q498
             go_wp2
             go_ret
             exact ⟨by first | rfl | (simp [errW_none, errW_some] <;> rfl) | (simp only [← hji55]; first | rfl | (simp [errW_none, errW_some] <;> rfl)) | (simp [*, errW_none, errW_some] <;> rfl), bz_⟩
          ·rw [if_neg c57] at H
           exact absurd H (by simp)
         ·rw [if_neg c56] at H
          exact absurd H (by simp)
     ·rw [if_neg c43] at H
      have c43b0 : (a0_0 == 6) = false := beq_eq_false_iff_ne.mpr c43
      have c43b1 : (a0_0 != 6) = true := bne_iff_ne.mpr c43
      by_cases c63 : a0_0 = 5
      ·rw [if_pos c63] at H
       have c63b0 : (a0_0 == 5) = true := beq_iff_eq.mpr c63
       have c63b1 : (a0_0 != 5) = false := bne_eq_false_iff_eq.mpr c63
       clear c63
       by_cases c64 : a3 = true
       ·subst c64
        have H1 : (some 22) = some r := by rw [if_pos rfl] at H; exact H
        clear H
        have H := H1
        clear H1
        obtain rfl := Option.some.inj H
        go_enter Try.func10, Try.ntmps10
        go_wp2_with (first | ((with_reducible refine gate_dst (N := 5) rfl ?_); (try (refine gate_guard (by rfl) ?_; dsimp only)); refine bx_ 5 #[.int .i64 a0_0, .int .u64 a0_1, .int .u64 a0_2, .int .u64 a0_3, .int .u64 a0_4, .int .i64 a0_5, .int .i64 a0_6, .int .i64 a0_7, .int .i64 a0_8, .int .i64 a0_9, .int .i64 a0_10] 32 ?_; intro gb495 hg w65 BK495 hb; have GW495 := bg_ hg; have GE495 := GW495; replace HB := bl_ hb; clear hb hg; have zc66_0 := c0_ BK495; have zc66_1 := c1_ BK495; have zc66_2 := c2_ BK495; have zc66_3 := c3_ BK495; have zc66_4 := c4_ BK495; have zc66_5 := c5_ BK495; have zc66_6 := c6_ BK495; have zc66_7 := c7_ BK495; have zc66_8 : w65.cell? ⟨gb495, 8, none⟩ = some (.int .i64 a0_8) := (blk_cell BK495.out 8).trans rfl; have zc66_9 : w65.cell? ⟨gb495, 9, none⟩ = some (.int .i64 a0_9) := (blk_cell BK495.out 9).trans rfl; have zc66_10 : w65.cell? ⟨gb495, 10, none⟩ = some (.int .i64 a0_10) := (blk_cell BK495.out 10).trans rfl; have zf66_0 := fz_ BK495 0; have zf66_1 := fz_ BK495 1; have zf66_2 := fz_ BK495 2; have zf66_3 := fz_ BK495 3; have zf66_4 := fz_ BK495 4; have zf66_5 := fz_ BK495 5; have zf66_6 := fz_ BK495 6; have zf66_7 := fz_ BK495 7; have zf66_8 := fz_ BK495 8; have zf66_9 := fz_ BK495 9; have zf66_10 := fz_ BK495 10))
        go_ret
        exact ⟨vv_, bz_⟩
       ·replace c64 := Bool.eq_false_iff.mpr c64
        subst c64
        have H1 : (if a2 = 8 then (if (wrap64 (a0_7 + a1)) = 0 then (some 0) else (if (wrap64 (a0_7 + a1)) = 8 then (some 0) else (if (wrap64 (a0_7 + a1)) = 16 then (some 0) else (some 22)))) else (some 22)) = some r := by rw [if_neg (show ¬ (false = true) by decide)] at H; exact H
        clear H
        have H := H1
        clear H1
        by_cases c67 : a2 = 8
        ·rw [if_pos c67] at H
         have c67b0 : (a2 == 8) = true := beq_iff_eq.mpr c67
         have c67b1 : (a2 != 8) = false := bne_eq_false_iff_eq.mpr c67
         clear c67
         by_cases c68 : (wrap64 (a0_7 + a1)) = 0
         ·rw [if_pos c68] at H
          have c68b0 : ((wrap64 (a0_7 + a1)) == 0) = true := beq_iff_eq.mpr c68
          have c68b1 : ((wrap64 (a0_7 + a1)) != 0) = false := bne_eq_false_iff_eq.mpr c68
          clear c68
          obtain rfl := Option.some.inj H
          go_enter Try.func10, Try.ntmps10
          go_wp2_with (first | ((with_reducible refine gate_dst (N := 5) rfl ?_); (try (refine gate_guard (by rfl) ?_; dsimp only)); refine bx_ 5 #[.int .i64 a0_0, .int .u64 a0_1, .int .u64 a0_2, .int .u64 a0_3, .int .u64 a0_4, .int .i64 a0_5, .int .i64 a0_6, .int .i64 a0_7, .int .i64 a0_8, .int .i64 a0_9, .int .i64 a0_10] 32 ?_; intro gb495 hg w69 BK495 hb; have GW495 := bg_ hg; have GE495 := GW495; replace HB := bl_ hb; clear hb hg; have zc70_0 := c0_ BK495; have zc70_1 := c1_ BK495; have zc70_2 := c2_ BK495; have zc70_3 := c3_ BK495; have zc70_4 := c4_ BK495; have zc70_5 := c5_ BK495; have zc70_6 := c6_ BK495; have zc70_7 := c7_ BK495; have zc70_8 : w69.cell? ⟨gb495, 8, none⟩ = some (.int .i64 a0_8) := (blk_cell BK495.out 8).trans rfl; have zc70_9 : w69.cell? ⟨gb495, 9, none⟩ = some (.int .i64 a0_9) := (blk_cell BK495.out 9).trans rfl; have zc70_10 : w69.cell? ⟨gb495, 10, none⟩ = some (.int .i64 a0_10) := (blk_cell BK495.out 10).trans rfl; have zf70_0 := fz_ BK495 0; have zf70_1 := fz_ BK495 1; have zf70_2 := fz_ BK495 2; have zf70_3 := fz_ BK495 3; have zf70_4 := fz_ BK495 4; have zf70_5 := fz_ BK495 5; have zf70_6 := fz_ BK495 6; have zf70_7 := fz_ BK495 7; have zf70_8 := fz_ BK495 8; have zf70_9 := fz_ BK495 9; have zf70_10 := fz_ BK495 10))
          go_ret
          exact ⟨vv_, bz_⟩
         ·rw [if_neg c68] at H
          have c68b0 : ((wrap64 (a0_7 + a1)) == 0) = false := beq_eq_false_iff_ne.mpr c68
          have c68b1 : ((wrap64 (a0_7 + a1)) != 0) = true := bne_iff_ne.mpr c68
          by_cases c71 : (wrap64 (a0_7 + a1)) = 8
          ·rw [if_pos c71] at H
           have c71b0 : ((wrap64 (a0_7 + a1)) == 8) = true := beq_iff_eq.mpr c71
           have c71b1 : ((wrap64 (a0_7 + a1)) != 8) = false := bne_eq_false_iff_eq.mpr c71
           clear c71
           obtain rfl := Option.some.inj H
           go_enter Try.func10, Try.ntmps10
           go_wp2_with (first | ((with_reducible refine gate_dst (N := 5) rfl ?_); (try (refine gate_guard (by rfl) ?_; dsimp only)); refine bx_ 5 #[.int .i64 a0_0, .int .u64 a0_1, .int .u64 a0_2, .int .u64 a0_3, .int .u64 a0_4, .int .i64 a0_5, .int .i64 a0_6, .int .i64 a0_7, .int .i64 a0_8, .int .i64 a0_9, .int .i64 a0_10] 32 ?_; intro gb495 hg w72 BK495 hb; have GW495 := bg_ hg; have GE495 := GW495; replace HB := bl_ hb; clear hb hg; have zc73_0 := c0_ BK495; have zc73_1 := c1_ BK495; have zc73_2 := c2_ BK495; have zc73_3 := c3_ BK495; have zc73_4 := c4_ BK495; have zc73_5 := c5_ BK495; have zc73_6 := c6_ BK495; have zc73_7 := c7_ BK495; have zc73_8 : w72.cell? ⟨gb495, 8, none⟩ = some (.int .i64 a0_8) := (blk_cell BK495.out 8).trans rfl; have zc73_9 : w72.cell? ⟨gb495, 9, none⟩ = some (.int .i64 a0_9) := (blk_cell BK495.out 9).trans rfl; have zc73_10 : w72.cell? ⟨gb495, 10, none⟩ = some (.int .i64 a0_10) := (blk_cell BK495.out 10).trans rfl; have zf73_0 := fz_ BK495 0; have zf73_1 := fz_ BK495 1; have zf73_2 := fz_ BK495 2; have zf73_3 := fz_ BK495 3; have zf73_4 := fz_ BK495 4; have zf73_5 := fz_ BK495 5; have zf73_6 := fz_ BK495 6; have zf73_7 := fz_ BK495 7; have zf73_8 := fz_ BK495 8; have zf73_9 := fz_ BK495 9; have zf73_10 := fz_ BK495 10))
           go_ret
           exact ⟨vv_, bz_⟩
          ·rw [if_neg c71] at H
           have c71b0 : ((wrap64 (a0_7 + a1)) == 8) = false := beq_eq_false_iff_ne.mpr c71
           have c71b1 : ((wrap64 (a0_7 + a1)) != 8) = true := bne_iff_ne.mpr c71
           by_cases c74 : (wrap64 (a0_7 + a1)) = 16
           ·rw [if_pos c74] at H
            have c74b0 : ((wrap64 (a0_7 + a1)) == 16) = true := beq_iff_eq.mpr c74
            have c74b1 : ((wrap64 (a0_7 + a1)) != 16) = false := bne_eq_false_iff_eq.mpr c74
            clear c74
            obtain rfl := Option.some.inj H
            go_enter Try.func10, Try.ntmps10
            go_wp2_with (first | ((with_reducible refine gate_dst (N := 5) rfl ?_); (try (refine gate_guard (by rfl) ?_; dsimp only)); refine bx_ 5 #[.int .i64 a0_0, .int .u64 a0_1, .int .u64 a0_2, .int .u64 a0_3, .int .u64 a0_4, .int .i64 a0_5, .int .i64 a0_6, .int .i64 a0_7, .int .i64 a0_8, .int .i64 a0_9, .int .i64 a0_10] 32 ?_; intro gb495 hg w75 BK495 hb; have GW495 := bg_ hg; have GE495 := GW495; replace HB := bl_ hb; clear hb hg; have zc76_0 := c0_ BK495; have zc76_1 := c1_ BK495; have zc76_2 := c2_ BK495; have zc76_3 := c3_ BK495; have zc76_4 := c4_ BK495; have zc76_5 := c5_ BK495; have zc76_6 := c6_ BK495; have zc76_7 := c7_ BK495; have zc76_8 : w75.cell? ⟨gb495, 8, none⟩ = some (.int .i64 a0_8) := (blk_cell BK495.out 8).trans rfl; have zc76_9 : w75.cell? ⟨gb495, 9, none⟩ = some (.int .i64 a0_9) := (blk_cell BK495.out 9).trans rfl; have zc76_10 : w75.cell? ⟨gb495, 10, none⟩ = some (.int .i64 a0_10) := (blk_cell BK495.out 10).trans rfl; have zf76_0 := fz_ BK495 0; have zf76_1 := fz_ BK495 1; have zf76_2 := fz_ BK495 2; have zf76_3 := fz_ BK495 3; have zf76_4 := fz_ BK495 4; have zf76_5 := fz_ BK495 5; have zf76_6 := fz_ BK495 6; have zf76_7 := fz_ BK495 7; have zf76_8 := fz_ BK495 8; have zf76_9 := fz_ BK495 9; have zf76_10 := fz_ BK495 10))
            go_ret
            exact ⟨vv_, bz_⟩
           ·rw [if_neg c74] at H
            have c74b0 : ((wrap64 (a0_7 + a1)) == 16) = false := beq_eq_false_iff_ne.mpr c74
            have c74b1 : ((wrap64 (a0_7 + a1)) != 16) = true := bne_iff_ne.mpr c74
            obtain rfl := Option.some.inj H
            go_enter Try.func10, Try.ntmps10
            go_wp2_with (first | ((with_reducible refine gate_dst (N := 5) rfl ?_); (try (refine gate_guard (by rfl) ?_; dsimp only)); refine bx_ 5 #[.int .i64 a0_0, .int .u64 a0_1, .int .u64 a0_2, .int .u64 a0_3, .int .u64 a0_4, .int .i64 a0_5, .int .i64 a0_6, .int .i64 a0_7, .int .i64 a0_8, .int .i64 a0_9, .int .i64 a0_10] 32 ?_; intro gb495 hg w77 BK495 hb; have GW495 := bg_ hg; have GE495 := GW495; replace HB := bl_ hb; clear hb hg; have zc78_0 := c0_ BK495; have zc78_1 := c1_ BK495; have zc78_2 := c2_ BK495; have zc78_3 := c3_ BK495; have zc78_4 := c4_ BK495; have zc78_5 := c5_ BK495; have zc78_6 := c6_ BK495; have zc78_7 := c7_ BK495; have zc78_8 : w77.cell? ⟨gb495, 8, none⟩ = some (.int .i64 a0_8) := (blk_cell BK495.out 8).trans rfl; have zc78_9 : w77.cell? ⟨gb495, 9, none⟩ = some (.int .i64 a0_9) := (blk_cell BK495.out 9).trans rfl; have zc78_10 : w77.cell? ⟨gb495, 10, none⟩ = some (.int .i64 a0_10) := (blk_cell BK495.out 10).trans rfl; have zf78_0 := fz_ BK495 0; have zf78_1 := fz_ BK495 1; have zf78_2 := fz_ BK495 2; have zf78_3 := fz_ BK495 3; have zf78_4 := fz_ BK495 4; have zf78_5 := fz_ BK495 5; have zf78_6 := fz_ BK495 6; have zf78_7 := fz_ BK495 7; have zf78_8 := fz_ BK495 8; have zf78_9 := fz_ BK495 9; have zf78_10 := fz_ BK495 10))
            go_ret
            exact ⟨vv_, bz_⟩
        ·rw [if_neg c67] at H
         have c67b0 : (a2 == 8) = false := beq_eq_false_iff_ne.mpr c67
         have c67b1 : (a2 != 8) = true := bne_iff_ne.mpr c67
         obtain rfl := Option.some.inj H
         go_enter Try.func10, Try.ntmps10
         go_wp2_with (first | ((with_reducible refine gate_dst (N := 5) rfl ?_); (try (refine gate_guard (by rfl) ?_; dsimp only)); refine bx_ 5 #[.int .i64 a0_0, .int .u64 a0_1, .int .u64 a0_2, .int .u64 a0_3, .int .u64 a0_4, .int .i64 a0_5, .int .i64 a0_6, .int .i64 a0_7, .int .i64 a0_8, .int .i64 a0_9, .int .i64 a0_10] 32 ?_; intro gb495 hg w79 BK495 hb; have GW495 := bg_ hg; have GE495 := GW495; replace HB := bl_ hb; clear hb hg; have zc80_0 := c0_ BK495; have zc80_1 := c1_ BK495; have zc80_2 := c2_ BK495; have zc80_3 := c3_ BK495; have zc80_4 := c4_ BK495; have zc80_5 := c5_ BK495; have zc80_6 := c6_ BK495; have zc80_7 := c7_ BK495; have zc80_8 : w79.cell? ⟨gb495, 8, none⟩ = some (.int .i64 a0_8) := (blk_cell BK495.out 8).trans rfl; have zc80_9 : w79.cell? ⟨gb495, 9, none⟩ = some (.int .i64 a0_9) := (blk_cell BK495.out 9).trans rfl; have zc80_10 : w79.cell? ⟨gb495, 10, none⟩ = some (.int .i64 a0_10) := (blk_cell BK495.out 10).trans rfl; have zf80_0 := fz_ BK495 0; have zf80_1 := fz_ BK495 1; have zf80_2 := fz_ BK495 2; have zf80_3 := fz_ BK495 3; have zf80_4 := fz_ BK495 4; have zf80_5 := fz_ BK495 5; have zf80_6 := fz_ BK495 6; have zf80_7 := fz_ BK495 7; have zf80_8 := fz_ BK495 8; have zf80_9 := fz_ BK495 9; have zf80_10 := fz_ BK495 10))
         go_ret
         exact ⟨vv_, bz_⟩
      ·rw [if_neg c63] at H
       have c63b0 : (a0_0 == 5) = false := beq_eq_false_iff_ne.mpr c63
       have c63b1 : (a0_0 != 5) = true := bne_iff_ne.mpr c63
       obtain rfl := Option.some.inj H
       go_enter Try.func10, Try.ntmps10
       go_wp2_with (first | ((with_reducible refine gate_dst (N := 5) rfl ?_); (try (refine gate_guard (by rfl) ?_; dsimp only)); refine bx_ 5 #[.int .i64 a0_0, .int .u64 a0_1, .int .u64 a0_2, .int .u64 a0_3, .int .u64 a0_4, .int .i64 a0_5, .int .i64 a0_6, .int .i64 a0_7, .int .i64 a0_8, .int .i64 a0_9, .int .i64 a0_10] 32 ?_; intro gb495 hg w81 BK495 hb; have GW495 := bg_ hg; have GE495 := GW495; replace HB := bl_ hb; clear hb hg; have zc82_0 := c0_ BK495; have zc82_1 := c1_ BK495; have zc82_2 := c2_ BK495; have zc82_3 := c3_ BK495; have zc82_4 := c4_ BK495; have zc82_5 := c5_ BK495; have zc82_6 := c6_ BK495; have zc82_7 := c7_ BK495; have zc82_8 : w81.cell? ⟨gb495, 8, none⟩ = some (.int .i64 a0_8) := (blk_cell BK495.out 8).trans rfl; have zc82_9 : w81.cell? ⟨gb495, 9, none⟩ = some (.int .i64 a0_9) := (blk_cell BK495.out 9).trans rfl; have zc82_10 : w81.cell? ⟨gb495, 10, none⟩ = some (.int .i64 a0_10) := (blk_cell BK495.out 10).trans rfl; have zf82_0 := fz_ BK495 0; have zf82_1 := fz_ BK495 1; have zf82_2 := fz_ BK495 2; have zf82_3 := fz_ BK495 3; have zf82_4 := fz_ BK495 4; have zf82_5 := fz_ BK495 5; have zf82_6 := fz_ BK495 6; have zf82_7 := fz_ BK495 7; have zf82_8 := fz_ BK495 8; have zf82_9 := fz_ BK495 9; have zf82_10 := fz_ BK495 10))
       go_ret
       exact ⟨vv_, bz_⟩

end Go.Proofs.Ytaplgollkkpnaaa.PA
