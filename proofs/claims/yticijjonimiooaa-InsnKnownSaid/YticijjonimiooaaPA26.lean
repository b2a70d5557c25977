import Derived.Test.YticijjonimiooaaPA0
import Derived.Test.YticijjonimiooaaSq
import Derived.Test.YticijjonimiooaaPA2
import Derived.Test.YticijjonimiooaaPA4
import Derived.Test.YticijjonimiooaaPA6
import Derived.Test.YticijjonimiooaaPA9
import Derived.Test.YticijjonimiooaaPA10
import Derived.Test.YticijjonimiooaaPA23
namespace Go.Proofs.Yticijjonimiooaa.PA
open Go.RowKit Go.Proofs.YticijjonimiooaaW.PrintWords Go.Proofs.YticijjonimiooaaW.PrintLast Go.Proofs.YticijjonimiooaaW.PrintMore
attribute [local go_sem] max2_int min2_int max_two min_two max_three min_three max_four min_four
set_option linter.unusedVariables false
set_option linter.unusedSimpArgs false
def lockgatelaw02_InsnBack.l0 : Nat → List (S40) → List Int → Int → Int → Option (Bool)
 | 0, _, _, _, _ => none
 | k + 1, x0, x3, x5, x6 => if x6 < (x0.length : Int) then (if 0 ≤ x6 then ((insn_Size.f ((rd_T40 x0 x6).f0) ((rd_T40 x0 x6).f1) ((rd_T40 x0 x6).f2) ((rd_T40 x0 x6).f3) ((rd_T40 x0 x6).f4)).bind fun t438 => ((insn_Check.f k ((rd_T40 x0 x6).f0) ((rd_T40 x0 x6).f1) ((rd_T40 x0 x6).f2) ((rd_T40 x0 x6).f3) ((rd_T40 x0 x6).f4)).bind fun t440 => (if t440 = 0 then (lockgatelaw02_InsnBack.l0 k x0 x3 (wrap64 (x5 + (wrap64 (8 * t438)))) (wrap64 (x6 + 1))) else (some false)))) else (none)) else ((insn_Get.f k x3).bind fun bt431 => (if bt431.2 = 0 then (if (x3.length : Int) = x5 then ((lockgatekit_SameInsns.f k bt431.1 x0).bind fun t435 => (if t435 = true then ((lockgatelaw02_works.f k).bind fun t436 => (some t436)) else (some false))) else (some false)) else (some false)))
def lockgatelaw02_InsnBack.f (k : Nat) (l0 : List (S40)) : Option (Bool) := if (l0.length : Int) > 400 then ((lockgatelaw02_works.f k).bind fun t425 => (some t425)) else ((insn_Put.f k l0).bind fun bt426 => (if bt426.2 = 0 then (lockgatelaw02_InsnBack.l0 k l0 bt426.1 0 0) else (if (bt426.1.length : Int) = 0 then ((lockgatelaw02_works.f k).bind fun t430 => (some t430)) else (some false))))
theorem lockgatelaw02_InsnBack.mono_l : ∀ k, (∀ y0 y1 y2 y3, LeO (lockgatelaw02_InsnBack.l0 k y0 y1 y2 y3) (lockgatelaw02_InsnBack.l0 (k + 1) y0 y1 y2 y3))
 | 0 => fun _ _ _ _ r h => by simp [lockgatelaw02_InsnBack.l0] at h
 | k + 1 => by
  have ih0 := lockgatelaw02_InsnBack.mono_l k
  intro y0 y1 y2 y3
  unfold lockgatelaw02_InsnBack.l0
  repeat' first
  | (with_reducible exact ih0 _ _ _ _)
  | (with_reducible exact insn_Check.mono _ _ _ _ _ _)
  | (with_reducible exact insn_Get.mono _ _)
  | (with_reducible exact insn_Put.mono _ _)
  | (with_reducible exact lockgatekit_SameInsns.mono _ _ _)
  | (with_reducible exact lockgatelaw02_works.mono _)
  | (with_reducible exact LeO.refl _)
  | (with_reducible exact LeO.none _)
  | (with_reducible refine LeO.ite ?_ ?_)
  | (with_reducible refine LeO.bind ?_ (fun _ => ?_))
  | exact ih0 _ _ _ _
  | exact insn_Check.mono _ _ _ _ _ _
  | exact insn_Get.mono _ _
  | exact insn_Put.mono _ _
  | exact lockgatekit_SameInsns.mono _ _ _
  | exact lockgatelaw02_works.mono _
  | exact LeO.none _
  | refine LeO.ite ?_ ?_
  | refine LeO.bind ?_ (fun _ => ?_)
theorem lockgatelaw02_InsnBack.mono : ∀ a0 k, LeO (lockgatelaw02_InsnBack.f k a0) (lockgatelaw02_InsnBack.f (k + 1) a0) := by
 intro a0 k
 have ih0 := lockgatelaw02_InsnBack.mono_l k
 unfold lockgatelaw02_InsnBack.f
 repeat' first
  | (with_reducible exact ih0 _ _ _ _)
  | (with_reducible exact insn_Check.mono _ _ _ _ _ _)
  | (with_reducible exact insn_Get.mono _ _)
  | (with_reducible exact insn_Put.mono _ _)
  | (with_reducible exact lockgatekit_SameInsns.mono _ _ _)
  | (with_reducible exact lockgatelaw02_works.mono _)
  | (with_reducible exact LeO.refl _)
  | (with_reducible exact LeO.none _)
  | (with_reducible refine LeO.ite ?_ ?_)
  | (with_reducible refine LeO.bind ?_ (fun _ => ?_))
  | exact ih0 _ _ _ _
  | exact insn_Check.mono _ _ _ _ _ _
  | exact insn_Get.mono _ _
  | exact insn_Put.mono _ _
  | exact lockgatekit_SameInsns.mono _ _ _
  | exact lockgatelaw02_works.mono _
  | exact LeO.none _
  | refine LeO.ite ?_ ?_
  | refine LeO.bind ?_ (fun _ => ?_)
set_option maxHeartbeats 8000000 in
set_option maxRecDepth 100000 in
theorem lockgatelaw02_InsnBack.calls (k : Nat) (A0 : Option Addr) (c0 : Nat) (l0 : List (S40)) (r : Bool) (w : World) (hr0 : Kd.C k40 w A0 l0.length l0) (hc0 : l0.length ≤ c0) (HRT : Aside0 (r = true)) (h : lockgatelaw02_InsnBack.f k l0 = some r) :
 Calls Try.prog 5 #[.slice A0 l0.length c0] w fun e w' => e = .returned (.bool r) ∧ Below w.heap.size w w' := by
 have hu40 := Try.underlying40
 have HR0 := Aside0.mk hr0
 have HC0 := Aside0.mk hc0
 clear hr0 hc0
 have HB := Aside0.mk (Below.refl w.heap.size w)
 have H : (if (l0.length : Int) > 400 then ((lockgatelaw02_works.f k).bind fun t425 => (some t425)) else ((insn_Put.f k l0).bind fun bt426 => (if bt426.2 = 0 then (lockgatelaw02_InsnBack.l0 k l0 bt426.1 0 0) else (if (bt426.1.length : Int) = 0 then ((lockgatelaw02_works.f k).bind fun t430 => (some t430)) else (some false))))) = some r := h
 clear h
 by_cases c2 : (l0.length : Int) > 400
 ·rw [if_pos c2] at H
  have c2b0 : decide (400 < (l0.length : Int)) = true := decide_eq_true c2
  have c2b1 : decide (400 < l0.length) = true := decide_eq_true (by omega)
  clear c2
  replace H := Option.bind_eq_some_iff.mp H
  obtain ⟨t425, A30, H⟩ := H
  (try dsimp only at H)
  have A3 := Aside0.mk A30
  clear A30
  obtain rfl := Option.some.inj H
  go_enter Try.func5, Try.ntmps5
  go_wp2_with (first | ((with_reducible refine gate_callee (f := 11) rfl ?_); refine gM_ 12 Try.func11 (lockgatelaw02_works.calls k  t425 _ A3.out) ?_; intro w4 hb; replace HB := bl_ hb; (try clear hb); ))
  go_ret
  exact ⟨vv_, bz_⟩
 rw [if_neg c2] at H
 have c2b0 : decide (400 < (l0.length : Int)) = false := decide_eq_false c2
 have c2b1 : decide (400 < l0.length) = false := decide_eq_false (by omega)
 clear c2
 replace H := Option.bind_eq_some_iff.mp H
 obtain ⟨⟨t426, t427⟩, A50, H⟩ := H
 (try dsimp only at H)
 have A5 := Aside0.mk A50
 clear A50
 by_cases c6 : t427 = 0
 rotate_left
 ·rw [if_neg c6] at H
  have c6b0 : (t427 == 0) = false := beq_eq_false_iff_ne.mpr c6
  have c6b1 : (t427 != 0) = true := bne_iff_ne.mpr c6
  by_cases c25 : (t426.length : Int) = 0
  ·rw [if_pos c25] at H
   have c25b0 : ((t426.length : Int) == 0) = true := beq_iff_eq.mpr c25
   have c25b1 : ((t426.length : Int) != 0) = false := bne_eq_false_iff_eq.mpr c25
   clear c25
   replace H := Option.bind_eq_some_iff.mp H
   obtain ⟨t430, A260, H⟩ := H
   (try dsimp only at H)
   have A26 := Aside0.mk A260
   clear A260
   obtain rfl := Option.some.inj H
   go_enter Try.func5, Try.ntmps5
   go_wp2_with (first | ((with_reducible refine gate_callee (f := 13) rfl ?_); refine goesL_ (some 15) rfl rfl Try.func13 (by kernel_rfl) rfl #[.slice A0 l0.length c0] rfl mp_ ?_; (with_reducible refine (insn_Put.calls k _ _ l0 t426 t427 _ ?side1 ?side2 A5.out).mono ?_); (case side1 => exact ca_ HR0.out); (case side2 => exact HC0.out); rintro e w27 ⟨v428, rfl, ho0, hb⟩; refine ⟨_, rfl, ?_⟩; have HO429 := Aside0.mk (Kd.R_lower ho0 (below_size bz_)); replace HB := bl_ hb; (try clear hb); (try clear ho0); obtain ⟨Ao28, co28, eo28⟩ := Kd.R_slice HO429.out; subst eo28) | (go_at_call 11; (with_reducible refine (lockgatelaw02_works.calls k  t430 _ A26.out).mono ?_); rintro e w29 ⟨rfl, hb⟩; replace HO429 := Aside0.mk (Kd.R_below (ra_ HO429.out) hb); replace HB := bl_ hb; (try clear hb); ))
   go_ret
   exact ⟨vv_, bz_⟩
  rw [if_neg c25] at H
  have c25b0 : ((t426.length : Int) == 0) = false := beq_eq_false_iff_ne.mpr c25
  have c25b1 : ((t426.length : Int) != 0) = true := bne_iff_ne.mpr c25
  have c25b2 : ¬ (t426 = []) := fun h_ => c25 (by rw [h_]; rfl)
  exact absurd ((Option.some.inj H).trans HRT.out) (by decide)
 rw [if_pos c6] at H
 have c6b0 : (t427 == 0) = true := beq_iff_eq.mpr c6
 have c6b1 : (t427 != 0) = false := bne_eq_false_iff_eq.mpr c6
 clear c6
 have H' := Aside0.mk H
 clear H
 go_enter Try.func5, Try.ntmps5
 go_wp2_with (first | ((with_reducible refine gate_callee (f := 13) rfl ?_); refine goesL_ (some 15) rfl rfl Try.func13 (by kernel_rfl) rfl #[.slice A0 l0.length c0] rfl mp_ ?_; (with_reducible refine (insn_Put.calls k _ _ l0 t426 t427 _ ?side1 ?side2 A5.out).mono ?_); (case side1 => exact ca_ HR0.out); (case side2 => exact HC0.out); rintro e w7 ⟨v428, rfl, ho0, hb⟩; refine ⟨_, rfl, ?_⟩; have HO429 := Aside0.mk (Kd.R_lower ho0 (below_size bz_)); replace HB := bl_ hb; (try clear hb); (try clear ho0)))
 go_loopg [5, 6] k (fun kq v5 v6 w' => ∃ (x5_1 : Int) (x6_1 : Int), v5 = .int .i64 x5_1 ∧ v6 = .int .i64 x6_1 ∧ Aside0 (lockgatelaw02_InsnBack.l0 kq l0 t426 x5_1 x6_1 = some r) ∧ Aside0 (kq ≤ k) ∧ Aside0 (Kd.R (Kd.int .u8) 5 w' w.heap.size (fun _ => True) v428 t426) ∧ Aside0 (Below w.heap.size w w'))
 case atStart => exact ⟨(0), (0), vs_, vs_, H', ⟨Nat.le_refl _⟩, ⟨by (with_reducible repeat (first | apply Kd.R_alloc | apply Kd.R_drewN | apply Kd.R_drew)); exact HO429.out⟩, ⟨bz_⟩⟩
 case round =>
  clear H'
  try clear c1
  try clear c2
  try clear c2b0
  try clear c2b1
  try clear p2
  try clear c5
  try clear c6
  try clear c6b0
  try clear c6b1
  obtain ⟨x5_1, x6_1, rfl, rfl, HA, HK1, HO_3, HB⟩ := hrel
  cases gk with
  | zero => exact absurd HA.out (by simp [lockgatelaw02_InsnBack.l0])
  | succ k1 =>
   have H := HA.out
   clear HA
   simp only [lockgatelaw02_InsnBack.l0] at H
   by_cases c8 : x6_1 < (l0.length : Int)
   ·rw [if_pos c8] at H
    have c8b0 : decide (x6_1 < (l0.length : Int)) = true := decide_eq_true c8
    clear c8
    by_cases c9 : 0 ≤ x6_1
    rotate_left
    ·rw [if_neg c9] at H
     exact absurd H (by simp)
    rw [if_pos c9] at H
    have c9b0 : decide (0 ≤ x6_1) = true := decide_eq_true c9
    clear c9
    replace H := Option.bind_eq_some_iff.mp H
    obtain ⟨t438, A100, H⟩ := H
    (try dsimp only at H)
    have A10 := Aside0.mk A100
    clear A100
    replace H := Option.bind_eq_some_iff.mp H
    obtain ⟨t440, A110, H⟩ := H
    (try dsimp only at H)
    have A11 := Aside0.mk A110
    clear A110
    by_cases c12 : t440 = 0
    ·rw [if_pos c12] at H
     have c12b0 : (t440 == 0) = true := beq_iff_eq.mpr c12
     have c12b1 : (t440 != 0) = false := bne_eq_false_iff_eq.mpr c12
     clear c12
     have H' := Aside0.mk H
     clear H
     have p437 : 0 ≤ (x6_1 : Int) := of_decide_eq_true as_
     have q437 : x6_1 < (l0.length : Int) := of_decide_eq_true as_
     obtain ⟨ad437, e437, hx437_0, hx437_1, hx437_2, hx437_3, hx437_4⟩ := at_T40 HR0.out x6_1 p437 q437
     cases e437
     replace hx437_0 := (hc_ HB hx437_0 :)
     replace hx437_1 := (hc_ HB hx437_1 :)
     replace hx437_2 := (hc_ HB hx437_2 :)
     replace hx437_3 := (hc_ HB hx437_3 :)
     replace hx437_4 := (hc_ HB hx437_4 :)
     replace p437 := eq_true p437
     replace q437 := eq_true q437
     go_wp2_with (first | ((with_reducible refine gate_callee (f := 24) rfl ?_); refine gM_ 37 Try.func24 (insn_Size.calls ((rd_T40 l0 x6_1).f0) ((rd_T40 l0 x6_1).f1) ((rd_T40 l0 x6_1).f2) ((rd_T40 l0 x6_1).f3) ((rd_T40 l0 x6_1).f4) t438 _ A10.out) ?_; intro w13 hb; replace HO_3 := Aside0.mk (Kd.R_below (ra_ HO_3.out) hb); replace HB := bl_ hb; (try clear hb); have p439 : 0 ≤ (x6_1 : Int) := of_decide_eq_true as_; have q439 : x6_1 < (l0.length : Int) := of_decide_eq_true as_; obtain ⟨ad439, e439, hx439_0, hx439_1, hx439_2, hx439_3, hx439_4⟩ := at_T40 HR0.out x6_1 p439 q439; obtain rfl : ad437 = ad439 := (by injection e439); replace hx439_0 := (hc_ HB hx439_0 :); replace hx439_1 := (hc_ HB hx439_1 :); replace hx439_2 := (hc_ HB hx439_2 :); replace hx439_3 := (hc_ HB hx439_3 :); replace hx439_4 := (hc_ HB hx439_4 :); replace p439 := eq_true p439; replace q439 := eq_true q439) | ((with_reducible refine gate_callee (f := 25) rfl ?_); refine gM_ 44 Try.func25 (insn_Check.calls k1 ((rd_T40 l0 x6_1).f0) ((rd_T40 l0 x6_1).f1) ((rd_T40 l0 x6_1).f2) ((rd_T40 l0 x6_1).f3) ((rd_T40 l0 x6_1).f4) t440 _ A11.out) ?_; intro w14 hb; replace HO_3 := Aside0.mk (Kd.R_below (ra_ HO_3.out) hb); replace HB := bl_ hb; (try clear hb); ))
     go_roundg k1
     case measure => have := HK1.out; omega
     case rel => exact ⟨(wrap64 (x5_1 + (wrap64 (8 * t438)))), (wrap64 (x6_1 + 1)), vs_, vs_, H', ⟨by have := HK1.out; omega⟩, ⟨by (with_reducible repeat (first | apply Kd.R_alloc | apply Kd.R_drewN | apply Kd.R_drew)); exact HO_3.out⟩, ⟨bz_⟩⟩
    rw [if_neg c12] at H
    have c12b0 : (t440 == 0) = false := beq_eq_false_iff_ne.mpr c12
    have c12b1 : (t440 != 0) = true := bne_iff_ne.mpr c12
    exact absurd ((Option.some.inj H).trans HRT.out) (by decide)
   rw [if_neg c8] at H
   have c8b0 : decide (x6_1 < (l0.length : Int)) = false := decide_eq_false c8
   clear c8
   replace H := Option.bind_eq_some_iff.mp H
   obtain ⟨⟨t431, t434⟩, A150, H⟩ := H
   (try dsimp only at H)
   have A15 := Aside0.mk A150
   clear A150
   by_cases c16 : t434 = 0
   rotate_left
   ·rw [if_neg c16] at H
    have c16b0 : (t434 == 0) = false := beq_eq_false_iff_ne.mpr c16
    have c16b1 : (t434 != 0) = true := bne_iff_ne.mpr c16
    exact absurd ((Option.some.inj H).trans HRT.out) (by decide)
   rw [if_pos c16] at H
   have c16b0 : (t434 == 0) = true := beq_iff_eq.mpr c16
   have c16b1 : (t434 != 0) = false := bne_eq_false_iff_eq.mpr c16
   clear c16
   by_cases c17 : (t426.length : Int) = x5_1
   rotate_left
   ·rw [if_neg c17] at H
    have c17b0 : ((t426.length : Int) == x5_1) = false := beq_eq_false_iff_ne.mpr c17
    have c17b1 : ((t426.length : Int) != x5_1) = true := bne_iff_ne.mpr c17
    exact absurd ((Option.some.inj H).trans HRT.out) (by decide)
   rw [if_pos c17] at H
   have c17b0 : ((t426.length : Int) == x5_1) = true := beq_iff_eq.mpr c17
   have c17b1 : ((t426.length : Int) != x5_1) = false := bne_eq_false_iff_eq.mpr c17
   clear c17
   replace H := Option.bind_eq_some_iff.mp H
   obtain ⟨t435, A180, H⟩ := H
   (try dsimp only at H)
   have A18 := Aside0.mk A180
   clear A180
   by_cases c19 : t435 = true
   ·subst c19
    have H1 := if1_ H
    clear H
    have H := H1
    clear H1
    replace H := Option.bind_eq_some_iff.mp H
    obtain ⟨t436, A200, H⟩ := H
    (try dsimp only at H)
    have A20 := Aside0.mk A200
    clear A200
    obtain rfl := Option.some.inj H
    obtain ⟨Ao21, co21, eo21⟩ := Kd.R_slice HO_3.out
    subst eo21
    go_wp2_with (first | ((with_reducible refine gate_callee (f := 19) rfl ?_); refine goesL_ (some 48) rfl rfl Try.func19 (by kernel_rfl) rfl #[.slice Ao21 t426.length co21] rfl mp_ ?_; (with_reducible refine (insn_Get.calls k1 (fun k_ => some k_ = (.slice Ao21 t426.length co21 : Value).ownBlock) _ _ t426 t431 t434 _ ?side1 A15.out).mono ?_); (case side1 => exact Kd.R_V (Kd.R_tight rfl (HO_3.out))); rintro e w22 ⟨v432, rfl, ho0, hb⟩; refine ⟨_, rfl, ?_⟩; have HO433 := Aside0.mk (Kd.R_lower (Kd.R_mono (ok' := fun k_ => True) ho0 (fun _ hk_ => trivial)) (below_size bz_)); replace HO_3 := Aside0.mk (Kd.R_below (ra_ HO_3.out) hb); replace HB := bl_ hb; (try clear hb); (try clear ho0); obtain ⟨Ao23, co23, eo23⟩ := Kd.R_slice HO433.out; subst eo23) | (go_at_call 21; (with_reducible refine (lockgatekit_SameInsns.calls k1 _ _ t431 _ _ l0 true _ ?side1 ?side2 ?side3 ?side4 A18.out).mono ?_); (case side1 => exact ca_ ((Kd.R_reads' HO433.out).2.2)); (case side2 => exact (Kd.R_reads' HO433.out).2.1); (case side3 => exact ca_ (Kd.C_below HR0.out HB.out)); (case side4 => exact HC0.out); rintro e w' ⟨rfl, ⟨nd, rfl⟩⟩) | (go_at_call 11; (with_reducible refine (lockgatelaw02_works.calls k1  t436 _ A20.out).mono ?_); rintro e w24 ⟨rfl, hb⟩; replace HO_3 := Aside0.mk (Kd.R_below (ra_ HO_3.out) hb); replace HO433 := Aside0.mk (Kd.R_below (ra_ HO433.out) hb); replace HB := bl_ hb; (try clear hb); ))
    go_ret
    exact ⟨vv_, bz_⟩
   replace c19 := Bool.eq_false_iff.mpr c19
   subst c19
   have H1 := if0_ H
   clear H
   have H := H1
   clear H1
   exact absurd ((Option.some.inj H).trans HRT.out) (by decide)
end Go.Proofs.Yticijjonimiooaa.PA
