import Derived.Test.YticijjonimiooaaPA0
import Derived.Test.YticijjonimiooaaSq
import Derived.Test.YticijjonimiooaaPA2
import Derived.Test.YticijjonimiooaaPA6
import Derived.Test.YticijjonimiooaaPA9
import Derived.Test.YticijjonimiooaaPA10
import Derived.Test.YticijjonimiooaaPA14
import Derived.Test.YticijjonimiooaaPA23
namespace Go.Proofs.Yticijjonimiooaa.PA
open Go.RowKit Go.Proofs.YticijjonimiooaaW.PrintWords Go.Proofs.YticijjonimiooaaW.PrintLast Go.Proofs.YticijjonimiooaaW.PrintMore
attribute [local go_sem] max2_int min2_int max_two min_two max_three min_three max_four min_four
set_option linter.unusedVariables false
set_option linter.unusedSimpArgs false
mutual
def lockgatelaw02_InsnCut.j1 : Nat → List (S40) → Int → List Int → Int → Int → Option (Bool)
 | 0, _, _, _, _, _ => none
 | k + 1, x0, x1, x5, x7, x8 => if 0 ≤ x1 then (if x1 ≤ (x5.length : Int) then ((insn_Get.f k (x5.take (x1 : Int).toNat)).bind fun bt502 => (if x7 = x1 then (if bt502.2 = 0 then (if 0 ≤ x8 then (if x8 ≤ (x0.length : Int) then ((lockgatekit_SameInsns.f k bt502.1 (x0.take (x8 : Int).toNat)).bind fun t510 => (if t510 = true then ((lockgatelaw02_works.f k).bind fun t511 => (some t511)) else (some false))) else (none)) else (none)) else (some false)) else (if bt502.2 = 2 then (if (bt502.1.length : Int) = 0 then ((lockgatelaw02_works.f k).bind fun t512 => (some t512)) else (some false)) else (some false)))) else (none)) else (none)
def lockgatelaw02_InsnCut.l0 : Nat → List (S40) → Int → List Int → Int → Int → Option (Bool)
 | 0, _, _, _, _, _ => none
 | k + 1, x0, x1, x5, x7, x8 => if x8 < (x0.length : Int) then (if 0 ≤ x8 then ((insn_Size.f ((rd_T40 x0 x8).f0) ((rd_T40 x0 x8).f1) ((rd_T40 x0 x8).f2) ((rd_T40 x0 x8).f3) ((rd_T40 x0 x8).f4)).bind fun t495 => (if (wrap64 (x7 + (wrap64 (8 * t495)))) ≤ x1 then ((insn_Size.f ((rd_T40 x0 x8).f0) ((rd_T40 x0 x8).f1) ((rd_T40 x0 x8).f2) ((rd_T40 x0 x8).f3) ((rd_T40 x0 x8).f4)).bind fun t497 => (lockgatelaw02_InsnCut.l0 k x0 x1 x5 (wrap64 (x7 + (wrap64 (8 * t497)))) (wrap64 (x8 + 1)))) else (lockgatelaw02_InsnCut.j1 k x0 x1 x5 x7 x8))) else (none)) else (lockgatelaw02_InsnCut.j1 k x0 x1 x5 x7 x8)
end
def lockgatelaw02_InsnCut.f (k : Nat) (l0 : List (S40)) (a1 : Int) : Option (Bool) := if (l0.length : Int) > 400 then ((lockgatelaw02_works.f k).bind fun t487 => (some t487)) else ((insn_Put.f k l0).bind fun bt488 => (if bt488.2 = 0 then ((lockgatekit_Pick.f a1 (wrap64 ((bt488.1.length : Int) + 1))).bind fun t493 => (lockgatelaw02_InsnCut.l0 k l0 t493 bt488.1 0 0)) else ((lockgatelaw02_works.f k).bind fun t492 => (some t492))))
theorem lockgatelaw02_InsnCut.mono_l : ∀ k, (∀ y0 y1 y2 y3 y4, LeO (lockgatelaw02_InsnCut.j1 k y0 y1 y2 y3 y4) (lockgatelaw02_InsnCut.j1 (k + 1) y0 y1 y2 y3 y4)) ∧ (∀ y0 y1 y2 y3 y4, LeO (lockgatelaw02_InsnCut.l0 k y0 y1 y2 y3 y4) (lockgatelaw02_InsnCut.l0 (k + 1) y0 y1 y2 y3 y4))
 | 0 => ⟨fun _ _ _ _ _ r h => by simp [lockgatelaw02_InsnCut.j1] at h, fun _ _ _ _ _ r h => by simp [lockgatelaw02_InsnCut.l0] at h⟩
 | k + 1 => by
  obtain ⟨ih0, ih1⟩ := lockgatelaw02_InsnCut.mono_l k
  refine ⟨?_, ?_⟩
  ·intro y0 y1 y2 y3 y4
   unfold lockgatelaw02_InsnCut.j1
   repeat' first
   | (with_reducible exact ih0 _ _ _ _ _)
   | (with_reducible exact ih1 _ _ _ _ _)
   | (with_reducible exact insn_Get.mono _ _)
   | (with_reducible exact insn_Put.mono _ _)
   | (with_reducible exact lockgatekit_SameInsns.mono _ _ _)
   | (with_reducible exact lockgatelaw02_works.mono _)
   | (with_reducible exact LeO.refl _)
   | (with_reducible exact LeO.none _)
   | (with_reducible refine LeO.ite ?_ ?_)
   | (with_reducible refine LeO.bind ?_ (fun _ => ?_))
   | exact ih0 _ _ _ _ _
   | exact ih1 _ _ _ _ _
   | exact insn_Get.mono _ _
   | exact insn_Put.mono _ _
   | exact lockgatekit_SameInsns.mono _ _ _
   | exact lockgatelaw02_works.mono _
   | exact LeO.none _
   | refine LeO.ite ?_ ?_
   | refine LeO.bind ?_ (fun _ => ?_)
  intro y0 y1 y2 y3 y4
  unfold lockgatelaw02_InsnCut.l0
  repeat' first
  | (with_reducible exact ih0 _ _ _ _ _)
  | (with_reducible exact ih1 _ _ _ _ _)
  | (with_reducible exact insn_Get.mono _ _)
  | (with_reducible exact insn_Put.mono _ _)
  | (with_reducible exact lockgatekit_SameInsns.mono _ _ _)
  | (with_reducible exact lockgatelaw02_works.mono _)
  | (with_reducible exact LeO.refl _)
  | (with_reducible exact LeO.none _)
  | (with_reducible refine LeO.ite ?_ ?_)
  | (with_reducible refine LeO.bind ?_ (fun _ => ?_))
  | exact ih0 _ _ _ _ _
  | exact ih1 _ _ _ _ _
  | exact insn_Get.mono _ _
  | exact insn_Put.mono _ _
  | exact lockgatekit_SameInsns.mono _ _ _
  | exact lockgatelaw02_works.mono _
  | exact LeO.none _
  | refine LeO.ite ?_ ?_
  | refine LeO.bind ?_ (fun _ => ?_)
theorem lockgatelaw02_InsnCut.mono : ∀ a0 a1 k, LeO (lockgatelaw02_InsnCut.f k a0 a1) (lockgatelaw02_InsnCut.f (k + 1) a0 a1) := by
 intro a0 a1 k
 obtain ⟨ih0, ih1⟩ := lockgatelaw02_InsnCut.mono_l k
 unfold lockgatelaw02_InsnCut.f
 repeat' first
  | (with_reducible exact ih0 _ _ _ _ _)
  | (with_reducible exact ih1 _ _ _ _ _)
  | (with_reducible exact insn_Get.mono _ _)
  | (with_reducible exact insn_Put.mono _ _)
  | (with_reducible exact lockgatekit_SameInsns.mono _ _ _)
  | (with_reducible exact lockgatelaw02_works.mono _)
  | (with_reducible exact LeO.refl _)
  | (with_reducible exact LeO.none _)
  | (with_reducible refine LeO.ite ?_ ?_)
  | (with_reducible refine LeO.bind ?_ (fun _ => ?_))
  | exact ih0 _ _ _ _ _
  | exact ih1 _ _ _ _ _
  | exact insn_Get.mono _ _
  | exact insn_Put.mono _ _
  | exact lockgatekit_SameInsns.mono _ _ _
  | exact lockgatelaw02_works.mono _
  | exact LeO.none _
  | refine LeO.ite ?_ ?_
  | refine LeO.bind ?_ (fun _ => ?_)
set_option maxHeartbeats 8000000 in
set_option maxRecDepth 100000 in
theorem lockgatelaw02_InsnCut.calls (k : Nat) (A0 : Option Addr) (c0 : Nat) (l0 : List (S40)) (a1 : Int) (r : Bool) (w : World) (hr0 : Kd.C k40 w A0 l0.length l0) (hc0 : l0.length ≤ c0) (HRT : Aside0 (r = true)) (h : lockgatelaw02_InsnCut.f k l0 a1 = some r) :
 Calls Try.prog 8 #[.slice A0 l0.length c0, .int .i64 a1] w fun e w' => e = .returned (.bool r) ∧ Below w.heap.size w w' := by
 have hu40 := Try.underlying40
 have HR0 := Aside0.mk hr0
 have HC0 := Aside0.mk hc0
 clear hr0 hc0
 have HB := Aside0.mk (Below.refl w.heap.size w)
 have H : (if (l0.length : Int) > 400 then ((lockgatelaw02_works.f k).bind fun t487 => (some t487)) else ((insn_Put.f k l0).bind fun bt488 => (if bt488.2 = 0 then ((lockgatekit_Pick.f a1 (wrap64 ((bt488.1.length : Int) + 1))).bind fun t493 => (lockgatelaw02_InsnCut.l0 k l0 t493 bt488.1 0 0)) else ((lockgatelaw02_works.f k).bind fun t492 => (some t492))))) = some r := h
 clear h
 by_cases c3 : (l0.length : Int) > 400
 ·rw [if_pos c3] at H
  have c3b0 : decide (400 < (l0.length : Int)) = true := decide_eq_true c3
  have c3b1 : decide (400 < l0.length) = true := decide_eq_true (by omega)
  clear c3
  replace H := Option.bind_eq_some_iff.mp H
  obtain ⟨t487, A40, H⟩ := H
  (try dsimp only at H)
  have A4 := Aside0.mk A40
  clear A40
  obtain rfl := Option.some.inj H
  go_enter Try.func8, Try.ntmps8
  go_wp2_with (first | ((with_reducible refine gate_callee (f := 11) rfl ?_); refine gM_ 14 Try.func11 (lockgatelaw02_works.calls k  t487 _ A4.out) ?_; intro w5 hb; replace HB := bl_ hb; (try clear hb); ))
  go_ret
  exact ⟨vv_, bz_⟩
 rw [if_neg c3] at H
 have c3b0 : decide (400 < (l0.length : Int)) = false := decide_eq_false c3
 have c3b1 : decide (400 < l0.length) = false := decide_eq_false (by omega)
 clear c3
 replace H := Option.bind_eq_some_iff.mp H
 obtain ⟨⟨t488, t489⟩, A60, H⟩ := H
 (try dsimp only at H)
 have A6 := Aside0.mk A60
 clear A60
 by_cases c7 : t489 = 0
 rotate_left
 ·rw [if_neg c7] at H
  have c7b0 : (t489 == 0) = false := beq_eq_false_iff_ne.mpr c7
  have c7b1 : (t489 != 0) = true := bne_iff_ne.mpr c7
  replace H := Option.bind_eq_some_iff.mp H
  obtain ⟨t492, A420, H⟩ := H
  (try dsimp only at H)
  have A42 := Aside0.mk A420
  clear A420
  obtain rfl := Option.some.inj H
  go_enter Try.func8, Try.ntmps8
  go_wp2_with (first | ((with_reducible refine gate_callee (f := 13) rfl ?_); refine goesL_ (some 17) rfl rfl Try.func13 (by kernel_rfl) rfl #[.slice A0 l0.length c0] rfl mp_ ?_; (with_reducible refine (insn_Put.calls k _ _ l0 t488 t489 _ ?side1 ?side2 A6.out).mono ?_); (case side1 => exact ca_ HR0.out); (case side2 => exact HC0.out); rintro e w43 ⟨v490, rfl, ho0, hb⟩; refine ⟨_, rfl, ?_⟩; have HO491 := Aside0.mk (Kd.R_lower ho0 (below_size bz_)); replace HB := bl_ hb; (try clear hb); (try clear ho0)) | ((with_reducible refine gate_callee (f := 11) rfl ?_); refine gM_ 22 Try.func11 (lockgatelaw02_works.calls k  t492 _ A42.out) ?_; intro w44 hb; replace HO491 := Aside0.mk (Kd.R_below (ra_ HO491.out) hb); replace HB := bl_ hb; (try clear hb); ))
  go_ret
  exact ⟨vv_, bz_⟩
 rw [if_pos c7] at H
 have c7b0 : (t489 == 0) = true := beq_iff_eq.mpr c7
 have c7b1 : (t489 != 0) = false := bne_eq_false_iff_eq.mpr c7
 clear c7
 replace H := Option.bind_eq_some_iff.mp H
 obtain ⟨t493, A80, H⟩ := H
 (try dsimp only at H)
 have A8 := Aside0.mk A80
 clear A80
 have HC9 := Aside0.mk H
 clear H
 go_enter Try.func8, Try.ntmps8
 go_upto_block 0 with (first | ((with_reducible refine gate_callee (f := 13) rfl ?_); refine goesL_ (some 17) rfl rfl Try.func13 (by kernel_rfl) rfl #[.slice A0 l0.length c0] rfl mp_ ?_; (with_reducible refine (insn_Put.calls k _ _ l0 t488 t489 _ ?side1 ?side2 A6.out).mono ?_); (case side1 => exact ca_ HR0.out); (case side2 => exact HC0.out); rintro e w10 ⟨v490, rfl, ho0, hb⟩; refine ⟨_, rfl, ?_⟩; have HO491 := Aside0.mk (Kd.R_lower ho0 (below_size bz_)); replace HB := bl_ hb; (try clear hb); (try clear ho0); obtain ⟨Ao11, co11, eo11⟩ := Kd.R_slice HO491.out; subst eo11) | ((with_reducible refine gate_callee (f := 27) rfl ?_); refine gM_ 27 Try.func27 (lockgatekit_Pick.calls a1 (wrap64 ((t488.length : Int) + 1)) t493 _ A8.out) ?_; rintro w' ⟨nd, rfl⟩))
 (try simp only [Act.put, s1_, s2_, s3_])
 go_cut [7, 8] (fun v7 v8 wc => ∃ (kq : Nat) (x7_8 : Int) (x8_8 : Int), v7 = .int .i64 x7_8 ∧ v8 = .int .i64 x8_8 ∧ Aside0 (lockgatelaw02_InsnCut.j1 kq l0 t493 t488 x7_8 x8_8 = some r) ∧ Aside0 (kq ≤ k) ∧ Aside0 (Kd.R (Kd.int .u8) 5 wc w.heap.size (fun _ => True) (.slice Ao11 t488.length co11) t488) ∧ Aside0 (Below w.heap.size w wc))
 case first =>
  have H := HC9.out
  clear HC9
  have H' := Aside0.mk H
  clear H
  go_wp2
  go_loopg [7, 8] k (fun kq v7 v8 w' => ∃ (x7_1 : Int) (x8_1 : Int), v7 = .int .i64 x7_1 ∧ v8 = .int .i64 x8_1 ∧ Aside0 (lockgatelaw02_InsnCut.l0 kq l0 t493 t488 x7_1 x8_1 = some r) ∧ Aside0 (kq ≤ k) ∧ Aside0 (Kd.R (Kd.int .u8) 5 w' w.heap.size (fun _ => True) (.slice Ao11 t488.length co11) t488) ∧ Aside0 (Below w.heap.size w w'))
  case atStart => exact ⟨(0), (0), vs_, vs_, H', ⟨Nat.le_refl _⟩, ⟨by (with_reducible repeat (first | apply Kd.R_alloc | apply Kd.R_drewN | apply Kd.R_drew)); exact HO491.out⟩, ⟨bz_⟩⟩
  case round =>
   clear H'
   try clear c1
   try clear c2
   try clear p2
   try clear c3
   try clear c3b0
   try clear c3b1
   try clear p6
   try clear c7
   try clear c7b0
   try clear c7b1
   try clear c8
   try clear c11
   obtain ⟨x7_1, x8_1, rfl, rfl, HA, HK1, HO_5, HB⟩ := hrel
   cases gk with
   | zero => exact absurd HA.out (by simp [lockgatelaw02_InsnCut.l0])
   | succ k1 =>
    have H := HA.out
    clear HA
    simp only [lockgatelaw02_InsnCut.l0] at H
    by_cases c12 : x8_1 < (l0.length : Int)
    rotate_left
    ·rw [if_neg c12] at H
     have c12b0 : decide (x8_1 < (l0.length : Int)) = false := decide_eq_false c12
     clear c12
     (first | rw [c12b0] | (simp only [i64_w, i32_w]; rw [c12b0]) | skip)
     have H' := Aside0.mk H
     clear H
     go_wp2
     go_meet
     case rel => exact ⟨_, (x7_1), (x8_1), vs_, vs_, H', ⟨by have := HK1.out; first | omega | exact Nat.le_refl _⟩, ⟨by (with_reducible repeat (first | apply Kd.R_alloc | apply Kd.R_drewN | apply Kd.R_drew)); exact HO_5.out⟩, ⟨bz_⟩⟩
    rw [if_pos c12] at H
    have c12b0 : decide (x8_1 < (l0.length : Int)) = true := decide_eq_true c12
    clear c12
    (first | rw [c12b0] | (simp only [i64_w, i32_w]; rw [c12b0]) | skip)
    by_cases c13 : 0 ≤ x8_1
    rotate_left
    ·rw [if_neg c13] at H
     exact absurd H (by simp)
    rw [if_pos c13] at H
    have c13b0 : decide (0 ≤ x8_1) = true := decide_eq_true c13
    clear c13
    replace H := Option.bind_eq_some_iff.mp H
    obtain ⟨t495, A140, H⟩ := H
    (try dsimp only at H)
    have A14 := Aside0.mk A140
    clear A140
    by_cases c15 : (wrap64 (x7_1 + (wrap64 (8 * t495)))) ≤ t493
    ·rw [if_pos c15] at H
     have c15b0 : decide ((wrap64 (x7_1 + (wrap64 (8 * t495)))) ≤ t493) = true := decide_eq_true c15
     clear c15
     replace H := Option.bind_eq_some_iff.mp H
     obtain ⟨t497, A160, H⟩ := H
     (try dsimp only at H)
     have A16 := Aside0.mk A160
     clear A160
     have H' := Aside0.mk H
     clear H
     have p494 : 0 ≤ (x8_1 : Int) := of_decide_eq_true as_
     have q494 : x8_1 < (l0.length : Int) := of_decide_eq_true as_
     obtain ⟨ad494, e494, hx494_0, hx494_1, hx494_2, hx494_3, hx494_4⟩ := at_T40 HR0.out x8_1 p494 q494
     cases e494
     replace hx494_0 := (hc_ HB hx494_0 :)
     replace hx494_1 := (hc_ HB hx494_1 :)
     replace hx494_2 := (hc_ HB hx494_2 :)
     replace hx494_3 := (hc_ HB hx494_3 :)
     replace hx494_4 := (hc_ HB hx494_4 :)
     replace p494 := eq_true p494
     replace q494 := eq_true q494
     go_wp2_with (first | (go_at_call 24; (with_reducible refine (insn_Size.calls ((rd_T40 l0 x8_1).f0) ((rd_T40 l0 x8_1).f1) ((rd_T40 l0 x8_1).f2) ((rd_T40 l0 x8_1).f3) ((rd_T40 l0 x8_1).f4) t495 _ A14.out).mono ?_); rintro e w17 ⟨rfl, hb⟩; replace HO_5 := Aside0.mk (Kd.R_below (ra_ HO_5.out) hb); replace HB := bl_ hb; (try clear hb); have p496 : 0 ≤ (x8_1 : Int) := of_decide_eq_true as_; have q496 : x8_1 < (l0.length : Int) := of_decide_eq_true as_; obtain ⟨ad496, e496, hx496_0, hx496_1, hx496_2, hx496_3, hx496_4⟩ := at_T40 HR0.out x8_1 p496 q496; obtain rfl : ad494 = ad496 := (by injection e496); replace hx496_0 := (hc_ HB hx496_0 :); replace hx496_1 := (hc_ HB hx496_1 :); replace hx496_2 := (hc_ HB hx496_2 :); replace hx496_3 := (hc_ HB hx496_3 :); replace hx496_4 := (hc_ HB hx496_4 :); replace p496 := eq_true p496; replace q496 := eq_true q496) | ((with_reducible refine gate_callee (f := 24) rfl ?_); refine gM_ 49 Try.func24 (insn_Size.calls ((rd_T40 l0 x8_1).f0) ((rd_T40 l0 x8_1).f1) ((rd_T40 l0 x8_1).f2) ((rd_T40 l0 x8_1).f3) ((rd_T40 l0 x8_1).f4) t497 _ A16.out) ?_; intro w18 hb; replace HO_5 := Aside0.mk (Kd.R_below (ra_ HO_5.out) hb); replace HB := bl_ hb; (try clear hb); ))
     go_roundg k1
     case measure => have := HK1.out; omega
     case rel => exact ⟨(wrap64 (x7_1 + (wrap64 (8 * t497)))), (wrap64 (x8_1 + 1)), vs_, vs_, H', ⟨by have := HK1.out; omega⟩, ⟨by (with_reducible repeat (first | apply Kd.R_alloc | apply Kd.R_drewN | apply Kd.R_drew)); exact HO_5.out⟩, ⟨bz_⟩⟩
    rw [if_neg c15] at H
    have c15b0 : decide ((wrap64 (x7_1 + (wrap64 (8 * t495)))) ≤ t493) = false := decide_eq_false c15
    clear c15
    have H' := Aside0.mk H
    clear H
    have p494 : 0 ≤ (x8_1 : Int) := of_decide_eq_true as_
    have q494 : x8_1 < (l0.length : Int) := of_decide_eq_true as_
    obtain ⟨ad494, e494, hx494_0, hx494_1, hx494_2, hx494_3, hx494_4⟩ := at_T40 HR0.out x8_1 p494 q494
    cases e494
    replace hx494_0 := (hc_ HB hx494_0 :)
    replace hx494_1 := (hc_ HB hx494_1 :)
    replace hx494_2 := (hc_ HB hx494_2 :)
    replace hx494_3 := (hc_ HB hx494_3 :)
    replace hx494_4 := (hc_ HB hx494_4 :)
    replace p494 := eq_true p494
    replace q494 := eq_true q494
    go_wp2_with (first | (go_at_call 24; (with_reducible refine (insn_Size.calls ((rd_T40 l0 x8_1).f0) ((rd_T40 l0 x8_1).f1) ((rd_T40 l0 x8_1).f2) ((rd_T40 l0 x8_1).f3) ((rd_T40 l0 x8_1).f4) t495 _ A14.out).mono ?_); rintro e w19 ⟨rfl, hb⟩; replace HO_5 := Aside0.mk (Kd.R_below (ra_ HO_5.out) hb); replace HB := bl_ hb; (try clear hb); ))
    go_meet
    case rel => exact ⟨_, (x7_1), (x8_1), vs_, vs_, H', ⟨by have := HK1.out; first | omega | exact Nat.le_refl _⟩, ⟨by (with_reducible repeat (first | apply Kd.R_alloc | apply Kd.R_drewN | apply Kd.R_drew)); exact HO_5.out⟩, ⟨bz_⟩⟩
 case rest =>
  clear HC9
  try clear c1
  try clear c2
  try clear p2
  try clear c3
  try clear c3b0
  try clear c3b1
  try clear p4
  try clear q4
  try clear hx4
  try clear p6
  try clear c7
  try clear c7b0
  try clear c7b1
  try clear c8
  try clear c11
  try clear c12
  try clear c12b0
  try clear c13
  try clear c13b0
  try clear c15
  try clear c15b0
  try clear hx494_0
  try clear hx494_1
  try clear hx494_2
  try clear hx494_3
  try clear hx494_4
  try clear hx496_0
  try clear hx496_1
  try clear hx496_2
  try clear hx496_3
  try clear hx496_4
  try clear p2
  try clear p494
  try clear p496
  try clear p6
  try clear q494
  try clear q496
  obtain ⟨kq, x7_8, x8_8, rfl, rfl, HA, HJ8, HO_5, HB⟩ := hcut
  cases kq with
  | zero => exact absurd HA.out (by simp [lockgatelaw02_InsnCut.j1])
  | succ kj8 =>
   have H := HA.out
   clear HA
   simp only [lockgatelaw02_InsnCut.j1] at H
   by_cases c20 : 0 ≤ t493
   rotate_left
   ·rw [if_neg c20] at H
    exact absurd H (by simp)
   rw [if_pos c20] at H
   have c20b0 := eq_true c20
   have c20b1 : decide (0 ≤ t493) = true := decide_eq_true c20
   clear c20
   by_cases c21 : t493 ≤ (t488.length : Int)
   rotate_left
   ·rw [if_neg c21] at H
    exact absurd H (by simp)
   rw [if_pos c21] at H
   have c21b0 := eq_true c21
   have c21b1 : decide (t493 ≤ (t488.length : Int)) = true := decide_eq_true c21
   clear c21
   obtain ⟨y498, hy498⟩ : ∃ Y : List Int, Y = (t488.take (t493 : Int).toNat) := ⟨_, rfl⟩
   replace H : ((insn_Get.f kj8 y498).bind fun bt502 => (if x7_8 = t493 then (if bt502.2 = 0 then (if 0 ≤ x8_8 then (if x8_8 ≤ (l0.length : Int) then ((lockgatekit_SameInsns.f kj8 bt502.1 (l0.take (x8_8 : Int).toNat)).bind fun t510 => (if t510 = true then ((lockgatelaw02_works.f kj8).bind fun t511 => (some t511)) else (some false))) else (none)) else (none)) else (some false)) else (if bt502.2 = 2 then (if (bt502.1.length : Int) = 0 then ((lockgatelaw02_works.f kj8).bind fun t512 => (some t512)) else (some false)) else (some false)))) = some r := by first | (rw [hy498]; with_reducible exact H) | (have H2_ := (Option.bind_some _ _).symm.trans H; rw [hy498]; with_reducible exact H2_) | (have H2_ := (Option.bind_some _ _).symm.trans H; with_reducible exact H2_) | with_reducible exact H | (rw [hy498]; exact H) | exact H
   have Ny498 := Aside0.mk hy498
   clear hy498
   replace H := Option.bind_eq_some_iff.mp H
   obtain ⟨⟨t502, t505⟩, A220, H⟩ := H
   (try dsimp only at H)
   have A22 := Aside0.mk A220
   clear A220
   by_cases c23 : x7_8 = t493
   rotate_left
   ·rw [if_neg c23] at H
    have c23b0 : (x7_8 == t493) = false := beq_eq_false_iff_ne.mpr c23
    have c23b1 : (x7_8 != t493) = true := bne_iff_ne.mpr c23
    by_cases c35 : t505 = 2
    rotate_left
    ·rw [if_neg c35] at H
     have c35b0 : (t505 == 2) = false := beq_eq_false_iff_ne.mpr c35
     have c35b1 : (t505 != 2) = true := bne_iff_ne.mpr c35
     exact absurd ((Option.some.inj H).trans HRT.out) (by decide)
    rw [if_pos c35] at H
    have c35b0 : (t505 == 2) = true := beq_iff_eq.mpr c35
    have c35b1 : (t505 != 2) = false := bne_eq_false_iff_eq.mpr c35
    clear c35
    by_cases c36 : (t502.length : Int) = 0
    ·rw [if_pos c36] at H
     have c36b0 : ((t502.length : Int) == 0) = true := beq_iff_eq.mpr c36
     have c36b1 : ((t502.length : Int) != 0) = false := bne_eq_false_iff_eq.mpr c36
     clear c36
     replace H := Option.bind_eq_some_iff.mp H
     obtain ⟨t512, A370, H⟩ := H
     (try dsimp only at H)
     have A37 := Aside0.mk A370
     clear A370
     obtain rfl := Option.some.inj H
     have q38 : (t493 : Int) ≤ ((t488.length : Int) : Int) := of_decide_eq_true as_
     obtain ⟨i038, hi038, _, hsz38, _⟩ := info_parts info5
     have hroom38 : t488.length ≤ co11 := (Kd.R_reads' HO_5.out).2.1
     have hC38 : Kd.C (Kd.int .u8) _ Ao11 t488.length t488 := (Kd.R_reads' HO_5.out).2.2
     (try clear hcut30); have hcut38 := cut_to (P := Try.prog) 25 5 .i64 Try.underlying25 hi038 Ao11 t488.length co11 t493 (of_decide_eq_true as_) q38 hroom38
     have hr38 := Kd.C_take (m := (t493 : Int).toNat) hC38 (by omega)
     have hy38 : y498.length = (t493 : Int).toNat := (by rw [Ny498.out, List.length_take]; omega)
     rw [← Ny498.out] at hr38
     rw [← hy38] at hcut38
     have HR501 := Aside0.mk hr38
     have HC501 := Aside0.mk (show y498.length ≤ co11 from by omega)
     clear hr38 hC38 hroom38 hi038 hsz38
     have KY38 := Aside0.mk hy38
     clear hy38
     have KL38 := Aside0.mk (show (t493 : Int).toNat ≤ t488.length from by omega)
     replace q38 := eq_true q38
     go_wp2_with (first | ((with_reducible refine gate_callee (f := 19) rfl ?_); refine goesL_ (some 58) rfl rfl Try.func19 (by kernel_rfl) rfl #[.slice Ao11 y498.length co11] rfl mp_ ?_; (with_reducible refine (insn_Get.calls kj8 (fun k_ => True) _ _ y498 t502 t505 _ ?side1 A22.out).mono ?_); (case side1 => exact Kd.V_mono (Kd.V_mk HC501.out (Kd.C_F (Kd.heap_int .u8) (by repeat (first | (with_reducible exact HR501.out) | (with_reducible refine Kd.C_alloc ?_ _) | (with_reducible refine Kd.C_drewN ?_ _) | (with_reducible refine Kd.C_drew ?_) | exact HR501.out)))) (fun _ _ => trivial)); rintro e w39 ⟨v503, rfl, ho0, hb⟩; refine ⟨_, rfl, ?_⟩; have HO504 := Aside0.mk (Kd.R_lower (Kd.R_mono (ok' := fun k_ => True) ho0 (fun _ hk_ => trivial)) (below_size bz_)); replace HO_5 := Aside0.mk (Kd.R_below (ra_ HO_5.out) hb); replace HR501 := Aside0.mk (Kd.C_below (by repeat (first | (with_reducible exact HR501.out) | (with_reducible refine Kd.C_alloc ?_ _) | (with_reducible refine Kd.C_drewN ?_ _) | (with_reducible refine Kd.C_drew ?_) | exact HR501.out)) hb); replace HB := bl_ hb; (try clear hb); (try clear ho0); obtain ⟨Ao40, co40, eo40⟩ := Kd.R_slice HO504.out; subst eo40) | (go_at_call 11; (with_reducible refine (lockgatelaw02_works.calls kj8  t512 _ A37.out).mono ?_); rintro e w41 ⟨rfl, hb⟩; replace HO_5 := Aside0.mk (Kd.R_below (ra_ HO_5.out) hb); replace HO504 := Aside0.mk (Kd.R_below (ra_ HO504.out) hb); replace HR501 := Aside0.mk (Kd.C_below (by repeat (first | (with_reducible exact HR501.out) | (with_reducible refine Kd.C_alloc ?_ _) | (with_reducible refine Kd.C_drewN ?_ _) | (with_reducible refine Kd.C_drew ?_) | exact HR501.out)) hb); replace HB := bl_ hb; (try clear hb); ))
     go_ret
     exact ⟨vv_, bz_⟩
    rw [if_neg c36] at H
    have c36b0 : ((t502.length : Int) == 0) = false := beq_eq_false_iff_ne.mpr c36
    have c36b1 : ((t502.length : Int) != 0) = true := bne_iff_ne.mpr c36
    have c36b2 : ¬ (t502 = []) := fun h_ => c36 (by rw [h_]; rfl)
    exact absurd ((Option.some.inj H).trans HRT.out) (by decide)
   rw [if_pos c23] at H
   have c23b0 : (x7_8 == t493) = true := beq_iff_eq.mpr c23
   have c23b1 : (x7_8 != t493) = false := bne_eq_false_iff_eq.mpr c23
   clear c23
   by_cases c24 : t505 = 0
   rotate_left
   ·rw [if_neg c24] at H
    have c24b0 : (t505 == 0) = false := beq_eq_false_iff_ne.mpr c24
    have c24b1 : (t505 != 0) = true := bne_iff_ne.mpr c24
    exact absurd ((Option.some.inj H).trans HRT.out) (by decide)
   rw [if_pos c24] at H
   have c24b0 : (t505 == 0) = true := beq_iff_eq.mpr c24
   have c24b1 : (t505 != 0) = false := bne_eq_false_iff_eq.mpr c24
   clear c24
   by_cases c25 : 0 ≤ x8_8
   rotate_left
   ·rw [if_neg c25] at H
    exact absurd H (by simp)
   rw [if_pos c25] at H
   have c25b0 := eq_true c25
   have c25b1 : decide (0 ≤ x8_8) = true := decide_eq_true c25
   clear c25
   by_cases c26 : x8_8 ≤ (l0.length : Int)
   rotate_left
   ·rw [if_neg c26] at H
    exact absurd H (by simp)
   rw [if_pos c26] at H
   have c26b0 := eq_true c26
   have c26b1 : decide (x8_8 ≤ (l0.length : Int)) = true := decide_eq_true c26
   clear c26
   obtain ⟨y506, hy506⟩ : ∃ Y : List (S40), Y = (l0.take (x8_8 : Int).toNat) := ⟨_, rfl⟩
   replace H : ((lockgatekit_SameInsns.f kj8 t502 y506).bind fun t510 => (if t510 = true then ((lockgatelaw02_works.f kj8).bind fun t511 => (some t511)) else (some false))) = some r := by first | (rw [hy506]; with_reducible exact H) | (have H2_ := (Option.bind_some _ _).symm.trans H; rw [hy506]; with_reducible exact H2_) | (have H2_ := (Option.bind_some _ _).symm.trans H; with_reducible exact H2_) | with_reducible exact H | (rw [hy506]; exact H) | exact H
   have Ny506 := Aside0.mk hy506
   clear hy506
   replace H := Option.bind_eq_some_iff.mp H
   obtain ⟨t510, A270, H⟩ := H
   (try dsimp only at H)
   have A27 := Aside0.mk A270
   clear A270
   by_cases c28 : t510 = true
   ·subst c28
    have H1 := if1_ H
    clear H
    have H := H1
    clear H1
    replace H := Option.bind_eq_some_iff.mp H
    obtain ⟨t511, A290, H⟩ := H
    (try dsimp only at H)
    have A29 := Aside0.mk A290
    clear A290
    obtain rfl := Option.some.inj H
    have q30 : (t493 : Int) ≤ ((t488.length : Int) : Int) := of_decide_eq_true as_
    obtain ⟨i030, hi030, _, hsz30, _⟩ := info_parts info5
    have hroom30 : t488.length ≤ co11 := (Kd.R_reads' HO_5.out).2.1
    have hC30 : Kd.C (Kd.int .u8) _ Ao11 t488.length t488 := (Kd.R_reads' HO_5.out).2.2
    have hcut30 := cut_to (P := Try.prog) 25 5 .i64 Try.underlying25 hi030 Ao11 t488.length co11 t493 (of_decide_eq_true as_) q30 hroom30
    have hr30 := Kd.C_take (m := (t493 : Int).toNat) hC30 (by omega)
    have hy30 : y498.length = (t493 : Int).toNat := (by rw [Ny498.out, List.length_take]; omega)
    rw [← Ny498.out] at hr30
    rw [← hy30] at hcut30
    have HR501 := Aside0.mk hr30
    have HC501 := Aside0.mk (show y498.length ≤ co11 from by omega)
    clear hr30 hC30 hroom30 hi030 hsz30
    have KY30 := Aside0.mk hy30
    clear hy30
    have KL30 := Aside0.mk (show (t493 : Int).toNat ≤ t488.length from by omega)
    replace q30 := eq_true q30
    go_wp2_with (first | ((with_reducible refine gate_callee (f := 19) rfl ?_); refine goesL_ (some 58) rfl rfl Try.func19 (by kernel_rfl) rfl #[.slice Ao11 y498.length co11] rfl mp_ ?_; (with_reducible refine (insn_Get.calls kj8 (fun k_ => True) _ _ y498 t502 t505 _ ?side1 A22.out).mono ?_); (case side1 => exact Kd.V_mono (Kd.V_mk HC501.out (Kd.C_F (Kd.heap_int .u8) (by repeat (first | (with_reducible exact HR501.out) | (with_reducible refine Kd.C_alloc ?_ _) | (with_reducible refine Kd.C_drewN ?_ _) | (with_reducible refine Kd.C_drew ?_) | exact HR501.out)))) (fun _ _ => trivial)); rintro e w31 ⟨v503, rfl, ho0, hb⟩; refine ⟨_, rfl, ?_⟩; have HO504 := Aside0.mk (Kd.R_lower (Kd.R_mono (ok' := fun k_ => True) ho0 (fun _ hk_ => trivial)) (below_size bz_)); replace HO_5 := Aside0.mk (Kd.R_below (ra_ HO_5.out) hb); replace HR501 := Aside0.mk (Kd.C_below (by repeat (first | (with_reducible exact HR501.out) | (with_reducible refine Kd.C_alloc ?_ _) | (with_reducible refine Kd.C_drewN ?_ _) | (with_reducible refine Kd.C_drew ?_) | exact HR501.out)) hb); replace HB := bl_ hb; (try clear hb); (try clear ho0); have q32 : (x8_8 : Int) ≤ ((l0.length : Int) : Int) := of_decide_eq_true as_; obtain ⟨i032, hi032, _, hsz32, _⟩ := info_parts info40; have hroom32 : l0.length ≤ c0 := HC0.out; have hC32 : Kd.C k40 _ A0 l0.length l0 := HR0.out; have hcut32 := cut_to (P := Try.prog) 22 40 .i64 Try.underlying22 hi032 A0 l0.length c0 x8_8 (of_decide_eq_true as_) q32 hroom32; have hr32 := Kd.C_take (m := (x8_8 : Int).toNat) hC32 (by omega); have hy32 : y506.length = (x8_8 : Int).toNat := (by rw [Ny506.out, List.length_take]; omega); rw [← Ny506.out] at hr32; rw [← hy32] at hcut32; have HR509 := Aside0.mk hr32; have HC509 := Aside0.mk (show y506.length ≤ c0 from by omega); clear hr32 hC32 hroom32 hi032 hsz32; have KY32 := Aside0.mk hy32; clear hy32; replace q32 := eq_true q32; obtain ⟨Ao33, co33, eo33⟩ := Kd.R_slice HO504.out; subst eo33) | (go_at_call 21; (with_reducible refine (lockgatekit_SameInsns.calls kj8 _ _ t502 _ _ y506 true _ ?side1 ?side2 ?side3 ?side4 A27.out).mono ?_); (case side1 => exact ca_ ((Kd.R_reads' HO504.out).2.2)); (case side2 => exact (Kd.R_reads' HO504.out).2.1); (case side3 => exact ca_ (Kd.C_below HR509.out HB.out)); (case side4 => exact HC509.out); rintro e w' ⟨rfl, ⟨nd, rfl⟩⟩) | (go_at_call 11; (with_reducible refine (lockgatelaw02_works.calls kj8  t511 _ A29.out).mono ?_); rintro e w34 ⟨rfl, hb⟩; replace HO_5 := Aside0.mk (Kd.R_below (ra_ HO_5.out) hb); replace HO504 := Aside0.mk (Kd.R_below (ra_ HO504.out) hb); replace HR501 := Aside0.mk (Kd.C_below (by repeat (first | (with_reducible exact HR501.out) | (with_reducible refine Kd.C_alloc ?_ _) | (with_reducible refine Kd.C_drewN ?_ _) | (with_reducible refine Kd.C_drew ?_) | exact HR501.out)) hb); replace HB := bl_ hb; (try clear hb); ))
    go_ret
    exact ⟨vv_, bz_⟩
   replace c28 := Bool.eq_false_iff.mpr c28
   subst c28
   have H1 := if0_ H
   clear H
   have H := H1
   clear H1
   exact absurd ((Option.some.inj H).trans HRT.out) (by decide)
end Go.Proofs.Yticijjonimiooaa.PA
