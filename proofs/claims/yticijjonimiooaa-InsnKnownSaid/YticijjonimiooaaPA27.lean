import Derived.Test.YticijjonimiooaaPA0
import Derived.Test.YticijjonimiooaaSq
import Derived.Test.YticijjonimiooaaPA6
import Derived.Test.YticijjonimiooaaPA9
import Derived.Test.YticijjonimiooaaPA10
import Derived.Test.YticijjonimiooaaPA23
namespace Go.Proofs.Yticijjonimiooaa.PA
open Go.RowKit Go.Proofs.YticijjonimiooaaW.PrintWords Go.Proofs.YticijjonimiooaaW.PrintLast Go.Proofs.YticijjonimiooaaW.PrintMore
attribute [local go_sem] max2_int min2_int max_two min_two max_three min_three max_four min_four
set_option linter.unusedVariables false
set_option linter.unusedSimpArgs false
def lockgatelaw02_InsnForms.f (k : Nat) (l0 : List Int) : Option (Bool) := if (l0.length : Int) > 8192 then ((lockgatelaw02_works.f k).bind fun t441 => (some t441)) else ((insn_Get.f k l0).bind fun bt442 => (if bt442.2 = 0 then ((insn_Put.f k bt442.1).bind fun bt446 => (if bt446.2 = 0 then ((lockgatekit_SameBytes.f k bt446.1 l0).bind fun t450 => (if t450 = true then ((lockgatelaw02_works.f k).bind fun t451 => (some t451)) else (some false))) else (some false))) else (if (bt442.1.length : Int) = 0 then ((lockgatelaw02_works.f k).bind fun t452 => (some t452)) else (some false))))
theorem lockgatelaw02_InsnForms.mono : ∀ a0 k, LeO (lockgatelaw02_InsnForms.f k a0) (lockgatelaw02_InsnForms.f (k + 1) a0) := by
 intro a0 k
 unfold lockgatelaw02_InsnForms.f
 repeat' first
  | (with_reducible exact insn_Get.mono _ _)
  | (with_reducible exact insn_Put.mono _ _)
  | (with_reducible exact lockgatekit_SameBytes.mono _ _ _)
  | (with_reducible exact lockgatelaw02_works.mono _)
  | (with_reducible exact LeO.refl _)
  | (with_reducible exact LeO.none _)
  | (with_reducible refine LeO.ite ?_ ?_)
  | (with_reducible refine LeO.bind ?_ (fun _ => ?_))
  | exact insn_Get.mono _ _
  | exact insn_Put.mono _ _
  | exact lockgatekit_SameBytes.mono _ _ _
  | exact lockgatelaw02_works.mono _
  | exact LeO.none _
  | refine LeO.ite ?_ ?_
  | refine LeO.bind ?_ (fun _ => ?_)
set_option maxHeartbeats 8000000 in
set_option maxRecDepth 100000 in
theorem lockgatelaw02_InsnForms.calls (k : Nat) (A0 : Option Addr) (c0 : Nat) (l0 : List Int) (r : Bool) (w : World) (hr0 : Kd.C (Kd.int .u8) w A0 l0.length l0) (hc0 : l0.length ≤ c0) (HRT : Aside0 (r = true)) (h : lockgatelaw02_InsnForms.f k l0 = some r) :
 Calls Try.prog 6 #[.slice A0 l0.length c0] w fun e w' => e = .returned (.bool r) ∧ Below w.heap.size w w' := by
 have HR0 := Aside0.mk hr0
 have HC0 := Aside0.mk hc0
 clear hr0 hc0
 have HB := Aside0.mk (Below.refl w.heap.size w)
 have H : (if (l0.length : Int) > 8192 then ((lockgatelaw02_works.f k).bind fun t441 => (some t441)) else ((insn_Get.f k l0).bind fun bt442 => (if bt442.2 = 0 then ((insn_Put.f k bt442.1).bind fun bt446 => (if bt446.2 = 0 then ((lockgatekit_SameBytes.f k bt446.1 l0).bind fun t450 => (if t450 = true then ((lockgatelaw02_works.f k).bind fun t451 => (some t451)) else (some false))) else (some false))) else (if (bt442.1.length : Int) = 0 then ((lockgatelaw02_works.f k).bind fun t452 => (some t452)) else (some false))))) = some r := h
 clear h
 by_cases c2 : (l0.length : Int) > 8192
 ·rw [if_pos c2] at H
  have c2b0 : decide (8192 < (l0.length : Int)) = true := decide_eq_true c2
  have c2b1 : decide (8192 < l0.length) = true := decide_eq_true (by omega)
  clear c2
  replace H := Option.bind_eq_some_iff.mp H
  obtain ⟨t441, A30, H⟩ := H
  (try dsimp only at H)
  have A3 := Aside0.mk A30
  clear A30
  obtain rfl := Option.some.inj H
  go_enter Try.func6, Try.ntmps6
  go_wp2_with (first | ((with_reducible refine gate_callee (f := 11) rfl ?_); refine gM_ 10 Try.func11 (lockgatelaw02_works.calls k  t441 _ A3.out) ?_; intro w4 hb; replace HB := bl_ hb; (try clear hb); ))
  go_ret
  exact ⟨vv_, bz_⟩
 rw [if_neg c2] at H
 have c2b0 : decide (8192 < (l0.length : Int)) = false := decide_eq_false c2
 have c2b1 : decide (8192 < l0.length) = false := decide_eq_false (by omega)
 clear c2
 replace H := Option.bind_eq_some_iff.mp H
 obtain ⟨⟨t442, t445⟩, A50, H⟩ := H
 (try dsimp only at H)
 have A5 := Aside0.mk A50
 clear A50
 by_cases c6 : t445 = 0
 rotate_left
 ·rw [if_neg c6] at H
  have c6b0 : (t445 == 0) = false := beq_eq_false_iff_ne.mpr c6
  have c6b1 : (t445 != 0) = true := bne_iff_ne.mpr c6
  by_cases c17 : (t442.length : Int) = 0
  ·rw [if_pos c17] at H
   have c17b0 : ((t442.length : Int) == 0) = true := beq_iff_eq.mpr c17
   have c17b1 : ((t442.length : Int) != 0) = false := bne_eq_false_iff_eq.mpr c17
   clear c17
   replace H := Option.bind_eq_some_iff.mp H
   obtain ⟨t452, A180, H⟩ := H
   (try dsimp only at H)
   have A18 := Aside0.mk A180
   clear A180
   obtain rfl := Option.some.inj H
   go_enter Try.func6, Try.ntmps6
   go_wp2_with (first | ((with_reducible refine gate_callee (f := 19) rfl ?_); refine goesL_ (some 13) rfl rfl Try.func19 (by kernel_rfl) rfl #[.slice A0 l0.length c0] rfl mp_ ?_; (with_reducible refine (insn_Get.calls k (fun k_ => k_ < w.heap.size) _ _ l0 t442 t445 _ ?side1 A5.out).mono ?_); (case side1 => exact Kd.V_mk HC0.out (Kd.F_below (Kd.C_F (Kd.heap_int .u8) HR0.out) bz_)); rintro e w19 ⟨v443, rfl, ho0, hb⟩; refine ⟨_, rfl, ?_⟩; have HO444 := Aside0.mk (Kd.R_lower (Kd.R_mono (ok' := fun k_ => True) ho0 (fun _ hk_ => trivial)) (below_size bz_)); replace HB := bl_ hb; (try clear hb); (try clear ho0); obtain ⟨Ao20, co20, eo20⟩ := Kd.R_slice HO444.out; subst eo20) | (go_at_call 11; (with_reducible refine (lockgatelaw02_works.calls k  t452 _ A18.out).mono ?_); rintro e w21 ⟨rfl, hb⟩; replace HO444 := Aside0.mk (Kd.R_below (ra_ HO444.out) hb); replace HB := bl_ hb; (try clear hb); ))
   go_ret
   exact ⟨vv_, bz_⟩
  rw [if_neg c17] at H
  have c17b0 : ((t442.length : Int) == 0) = false := beq_eq_false_iff_ne.mpr c17
  have c17b1 : ((t442.length : Int) != 0) = true := bne_iff_ne.mpr c17
  have c17b2 : ¬ (t442 = []) := fun h_ => c17 (by rw [h_]; rfl)
  exact absurd ((Option.some.inj H).trans HRT.out) (by decide)
 rw [if_pos c6] at H
 have c6b0 : (t445 == 0) = true := beq_iff_eq.mpr c6
 have c6b1 : (t445 != 0) = false := bne_eq_false_iff_eq.mpr c6
 clear c6
 replace H := Option.bind_eq_some_iff.mp H
 obtain ⟨⟨t446, t447⟩, A70, H⟩ := H
 (try dsimp only at H)
 have A7 := Aside0.mk A70
 clear A70
 by_cases c8 : t447 = 0
 rotate_left
 ·rw [if_neg c8] at H
  have c8b0 : (t447 == 0) = false := beq_eq_false_iff_ne.mpr c8
  have c8b1 : (t447 != 0) = true := bne_iff_ne.mpr c8
  exact absurd ((Option.some.inj H).trans HRT.out) (by decide)
 rw [if_pos c8] at H
 have c8b0 : (t447 == 0) = true := beq_iff_eq.mpr c8
 have c8b1 : (t447 != 0) = false := bne_eq_false_iff_eq.mpr c8
 clear c8
 replace H := Option.bind_eq_some_iff.mp H
 obtain ⟨t450, A90, H⟩ := H
 (try dsimp only at H)
 have A9 := Aside0.mk A90
 clear A90
 by_cases c10 : t450 = true
 ·subst c10
  have H1 := if1_ H
  clear H
  have H := H1
  clear H1
  replace H := Option.bind_eq_some_iff.mp H
  obtain ⟨t451, A110, H⟩ := H
  (try dsimp only at H)
  have A11 := Aside0.mk A110
  clear A110
  obtain rfl := Option.some.inj H
  go_enter Try.func6, Try.ntmps6
  go_wp2_with (first | ((with_reducible refine gate_callee (f := 19) rfl ?_); refine goesL_ (some 13) rfl rfl Try.func19 (by kernel_rfl) rfl #[.slice A0 l0.length c0] rfl mp_ ?_; (with_reducible refine (insn_Get.calls k (fun k_ => k_ < w.heap.size) _ _ l0 t442 t445 _ ?side1 A5.out).mono ?_); (case side1 => exact Kd.V_mk HC0.out (Kd.F_below (Kd.C_F (Kd.heap_int .u8) HR0.out) bz_)); rintro e w12 ⟨v443, rfl, ho0, hb⟩; refine ⟨_, rfl, ?_⟩; have HO444 := Aside0.mk (Kd.R_lower (Kd.R_mono (ok' := fun k_ => True) ho0 (fun _ hk_ => trivial)) (below_size bz_)); replace HB := bl_ hb; (try clear hb); (try clear ho0); obtain ⟨Ao13, co13, eo13⟩ := Kd.R_slice HO444.out; subst eo13) | ((with_reducible refine gate_callee (f := 13) rfl ?_); refine goesL_ (some 26) rfl rfl Try.func13 (by kernel_rfl) rfl #[.slice Ao13 t442.length co13] rfl mp_ ?_; (with_reducible refine (insn_Put.calls k _ _ t442 t446 t447 _ ?side1 ?side2 A7.out).mono ?_); (case side1 => exact ca_ ((Kd.R_reads' HO444.out).2.2)); (case side2 => exact (Kd.R_reads' HO444.out).2.1); rintro e w14 ⟨v448, rfl, ho0, hb⟩; refine ⟨_, rfl, ?_⟩; have HO449 := Aside0.mk (Kd.R_lower ho0 (below_size bz_)); replace HO444 := Aside0.mk (Kd.R_below (ra_ HO444.out) hb); replace HB := bl_ hb; (try clear hb); (try clear ho0); obtain ⟨Ao15, co15, eo15⟩ := Kd.R_slice HO449.out; subst eo15) | (go_at_call 15; (with_reducible refine (lockgatekit_SameBytes.calls k _ _ t446 _ _ l0 true _ ?side1 ?side2 ?side3 ?side4 A9.out).mono ?_); (case side1 => exact ca_ ((Kd.R_reads' HO449.out).2.2)); (case side2 => exact (Kd.R_reads' HO449.out).2.1); (case side3 => exact ca_ (Kd.C_below HR0.out HB.out)); (case side4 => exact HC0.out); rintro e w' ⟨rfl, ⟨nd, rfl⟩⟩) | (go_at_call 11; (with_reducible refine (lockgatelaw02_works.calls k  t451 _ A11.out).mono ?_); rintro e w16 ⟨rfl, hb⟩; replace HO444 := Aside0.mk (Kd.R_below (ra_ HO444.out) hb); replace HO449 := Aside0.mk (Kd.R_below (ra_ HO449.out) hb); replace HB := bl_ hb; (try clear hb); ))
  go_ret
  exact ⟨vv_, bz_⟩
 replace c10 := Bool.eq_false_iff.mpr c10
 subst c10
 have H1 := if0_ H
 clear H
 have H := H1
 clear H1
 exact absurd ((Option.some.inj H).trans HRT.out) (by decide)
end Go.Proofs.Yticijjonimiooaa.PA
