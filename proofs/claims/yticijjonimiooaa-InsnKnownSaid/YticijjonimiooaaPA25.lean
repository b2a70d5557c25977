import Derived.Test.YticijjonimiooaaPA0
import Derived.Test.YticijjonimiooaaSq
import Derived.Test.YticijjonimiooaaPA9
import Derived.Test.YticijjonimiooaaPA10
import Derived.Test.YticijjonimiooaaPA13
import Derived.Test.YticijjonimiooaaPA14
import Derived.Test.YticijjonimiooaaPA21
import Derived.Test.YticijjonimiooaaPA23
namespace Go.Proofs.Yticijjonimiooaa.PA
open Go.RowKit Go.Proofs.YticijjonimiooaaW.PrintWords Go.Proofs.YticijjonimiooaaW.PrintLast Go.Proofs.YticijjonimiooaaW.PrintMore
attribute [local go_sem] max2_int min2_int max_two min_two max_three min_three max_four min_four
set_option linter.unusedVariables false
set_option linter.unusedSimpArgs false
def lockgatelaw02_InsnGets.j0 : Nat → List Int → List Int → List (S40) → List (S40) → List (S40) → Bool → Option (Bool)
 | 0, _, _, _, _, _, _ => none
 | k + 1, x0, x3, x4, x6, x8, x50 => if x50 = true then (some false) else ((lockgatekit_SpoilInsns.f k x4).bind fun t421 => ((lockgatekit_SameInsns.f k x6 x8).bind fun t422 => (if t422 = true then ((lockgatekit_KeptBytes.f k x3 x0).bind fun t423 => (if t423 = true then ((lockgatelaw02_works.f k).bind fun t424 => (some t424)) else (some false))) else (some false))))
def lockgatelaw02_InsnGets.f (k : Nat) (l0 : List Int) : Option (Bool) := if (l0.length : Int) > 8192 then ((lockgatelaw02_works.f k).bind fun t396 => (some t396)) else ((lockgatekit_LentBytes.f k l0).bind fun t397 => (if 0 ≤ (l0.length : Int) then (if (l0.length : Int) ≤ (t397.length : Int) then ((insn_Get.f k (t397.take ((l0.length : Int) : Int).toNat)).bind fun bt404 => ((insn_Get.f k (t397.take ((l0.length : Int) : Int).toNat)).bind fun bt412 => ((lockgateref02_Get.f k l0).bind fun bt416 => (if bt404.2 = bt416.2 then (if bt412.2 = bt416.2 then ((lockgatekit_SameInsns.f k bt404.1 bt416.1).bind fun t420 => (lockgatelaw02_InsnGets.j0 k l0 t397 bt404.1 bt412.1 bt416.1 (!t420))) else (lockgatelaw02_InsnGets.j0 k l0 t397 bt404.1 bt412.1 bt416.1 true)) else (lockgatelaw02_InsnGets.j0 k l0 t397 bt404.1 bt412.1 bt416.1 true))))) else (none)) else (none)))
theorem lockgatelaw02_InsnGets.mono_l : ∀ k, (∀ y0 y1 y2 y3 y4 y5, LeO (lockgatelaw02_InsnGets.j0 k y0 y1 y2 y3 y4 y5) (lockgatelaw02_InsnGets.j0 (k + 1) y0 y1 y2 y3 y4 y5))
 | 0 => fun _ _ _ _ _ _ r h => by simp [lockgatelaw02_InsnGets.j0] at h
 | k + 1 => by
  have ih0 := lockgatelaw02_InsnGets.mono_l k
  intro y0 y1 y2 y3 y4 y5
  unfold lockgatelaw02_InsnGets.j0
  repeat' first
  | (with_reducible exact ih0 _ _ _ _ _ _)
  | (with_reducible exact insn_Get.mono _ _)
  | (with_reducible exact lockgatekit_KeptBytes.mono _ _ _)
  | (with_reducible exact lockgatekit_LentBytes.mono _ _)
  | (with_reducible exact lockgatekit_SameInsns.mono _ _ _)
  | (with_reducible exact lockgatekit_SpoilInsns.mono _ _)
  | (with_reducible exact lockgatelaw02_works.mono _)
  | (with_reducible exact lockgateref02_Get.mono _ _)
  | (with_reducible exact LeO.refl _)
  | (with_reducible exact LeO.none _)
  | (with_reducible refine LeO.ite ?_ ?_)
  | (with_reducible refine LeO.bind ?_ (fun _ => ?_))
  | exact ih0 _ _ _ _ _ _
  | exact insn_Get.mono _ _
  | exact lockgatekit_KeptBytes.mono _ _ _
  | exact lockgatekit_LentBytes.mono _ _
  | exact lockgatekit_SameInsns.mono _ _ _
  | exact lockgatekit_SpoilInsns.mono _ _
  | exact lockgatelaw02_works.mono _
  | exact lockgateref02_Get.mono _ _
  | exact LeO.none _
  | refine LeO.ite ?_ ?_
  | refine LeO.bind ?_ (fun _ => ?_)
theorem lockgatelaw02_InsnGets.mono : ∀ a0 k, LeO (lockgatelaw02_InsnGets.f k a0) (lockgatelaw02_InsnGets.f (k + 1) a0) := by
 intro a0 k
 have ih0 := lockgatelaw02_InsnGets.mono_l k
 unfold lockgatelaw02_InsnGets.f
 repeat' first
  | (with_reducible exact ih0 _ _ _ _ _ _)
  | (with_reducible exact insn_Get.mono _ _)
  | (with_reducible exact lockgatekit_KeptBytes.mono _ _ _)
  | (with_reducible exact lockgatekit_LentBytes.mono _ _)
  | (with_reducible exact lockgatekit_SameInsns.mono _ _ _)
  | (with_reducible exact lockgatekit_SpoilInsns.mono _ _)
  | (with_reducible exact lockgatelaw02_works.mono _)
  | (with_reducible exact lockgateref02_Get.mono _ _)
  | (with_reducible exact LeO.refl _)
  | (with_reducible exact LeO.none _)
  | (with_reducible refine LeO.ite ?_ ?_)
  | (with_reducible refine LeO.bind ?_ (fun _ => ?_))
  | exact ih0 _ _ _ _ _ _
  | exact insn_Get.mono _ _
  | exact lockgatekit_KeptBytes.mono _ _ _
  | exact lockgatekit_LentBytes.mono _ _
  | exact lockgatekit_SameInsns.mono _ _ _
  | exact lockgatekit_SpoilInsns.mono _ _
  | exact lockgatelaw02_works.mono _
  | exact lockgateref02_Get.mono _ _
  | exact LeO.none _
  | refine LeO.ite ?_ ?_
  | refine LeO.bind ?_ (fun _ => ?_)
set_option maxHeartbeats 8000000 in
set_option maxRecDepth 100000 in
theorem lockgatelaw02_InsnGets.calls (k : Nat) (A0 : Option Addr) (c0 : Nat) (l0 : List Int) (r : Bool) (w : World) (hr0 : Kd.C (Kd.int .u8) w A0 l0.length l0) (hc0 : l0.length ≤ c0) (HRT : Aside0 (r = true)) (h : lockgatelaw02_InsnGets.f k l0 = some r) :
 Calls Try.prog 4 #[.slice A0 l0.length c0] w fun e w' => e = .returned (.bool r) ∧ Below w.heap.size w w' := by
 have HR0 := Aside0.mk hr0
 have HC0 := Aside0.mk hc0
 clear hr0 hc0
 have HB := Aside0.mk (Below.refl w.heap.size w)
 have H : (if (l0.length : Int) > 8192 then ((lockgatelaw02_works.f k).bind fun t396 => (some t396)) else ((lockgatekit_LentBytes.f k l0).bind fun t397 => (if 0 ≤ (l0.length : Int) then (if (l0.length : Int) ≤ (t397.length : Int) then ((insn_Get.f k (t397.take ((l0.length : Int) : Int).toNat)).bind fun bt404 => ((insn_Get.f k (t397.take ((l0.length : Int) : Int).toNat)).bind fun bt412 => ((lockgateref02_Get.f k l0).bind fun bt416 => (if bt404.2 = bt416.2 then (if bt412.2 = bt416.2 then ((lockgatekit_SameInsns.f k bt404.1 bt416.1).bind fun t420 => (lockgatelaw02_InsnGets.j0 k l0 t397 bt404.1 bt412.1 bt416.1 (!t420))) else (lockgatelaw02_InsnGets.j0 k l0 t397 bt404.1 bt412.1 bt416.1 true)) else (lockgatelaw02_InsnGets.j0 k l0 t397 bt404.1 bt412.1 bt416.1 true))))) else (none)) else (none)))) = some r := h
 clear h
 by_cases c2 : (l0.length : Int) > 8192
 ·rw [if_pos c2] at H
  have c2b0 : decide (8192 < (l0.length : Int)) = true := decide_eq_true c2
  have c2b1 : decide (8192 < l0.length) = true := decide_eq_true (by omega)
  clear c2
  replace H := Option.bind_eq_some_iff.mp H
  obtain ⟨t396, A30, H⟩ := H
  (try dsimp only at H)
  have A3 := Aside0.mk A30
  clear A30
  obtain rfl := Option.some.inj H
  go_enter Try.func4, Try.ntmps4
  go_wp2_with (first | ((with_reducible refine gate_callee (f := 11) rfl ?_); refine gM_ 13 Try.func11 (lockgatelaw02_works.calls k  t396 _ A3.out) ?_; intro w4 hb; replace HB := bl_ hb; (try clear hb); (try clear hk); ))
  go_ret
  exact ⟨vv_, bz_⟩
 rw [if_neg c2] at H
 have c2b0 : decide (8192 < (l0.length : Int)) = false := decide_eq_false c2
 have c2b1 : decide (8192 < l0.length) = false := decide_eq_false (by omega)
 clear c2
 replace H := Option.bind_eq_some_iff.mp H
 obtain ⟨t397, A50, H⟩ := H
 (try dsimp only at H)
 have A5 := Aside0.mk A50
 clear A50
 by_cases c6 : 0 ≤ (l0.length : Int)
 rotate_left
 ·rw [if_neg c6] at H
  exact absurd H (by simp)
 rw [if_pos c6] at H
 have c6b0 := eq_true c6
 have c6b1 : decide (0 ≤ (l0.length : Int)) = true := decide_eq_true c6
 clear c6
 by_cases c7 : (l0.length : Int) ≤ (t397.length : Int)
 rotate_left
 ·rw [if_neg c7] at H
  exact absurd H (by simp)
 rw [if_pos c7] at H
 have c7b0 := eq_true c7
 have c7b1 : decide ((l0.length : Int) ≤ (t397.length : Int)) = true := decide_eq_true c7
 clear c7
 obtain ⟨y400, hy400⟩ : ∃ Y : List Int, Y = (t397.take ((l0.length : Int) : Int).toNat) := ⟨_, rfl⟩
 replace H : ((insn_Get.f k y400).bind fun bt404 => ((insn_Get.f k (t397.take ((l0.length : Int) : Int).toNat)).bind fun bt412 => ((lockgateref02_Get.f k l0).bind fun bt416 => (if bt404.2 = bt416.2 then (if bt412.2 = bt416.2 then ((lockgatekit_SameInsns.f k bt404.1 bt416.1).bind fun t420 => (lockgatelaw02_InsnGets.j0 k l0 t397 bt404.1 bt412.1 bt416.1 (!t420))) else (lockgatelaw02_InsnGets.j0 k l0 t397 bt404.1 bt412.1 bt416.1 true)) else (lockgatelaw02_InsnGets.j0 k l0 t397 bt404.1 bt412.1 bt416.1 true))))) = some r := by first | (rw [hy400]; with_reducible exact H) | (have H2_ := (Option.bind_some _ _).symm.trans H; rw [hy400]; with_reducible exact H2_) | (have H2_ := (Option.bind_some _ _).symm.trans H; with_reducible exact H2_) | with_reducible exact H | (rw [hy400]; exact H) | exact H
 have Ny400 := Aside0.mk hy400
 clear hy400
 replace H := Option.bind_eq_some_iff.mp H
 obtain ⟨⟨t404, t407⟩, A80, H⟩ := H
 (try dsimp only at H)
 have A8 := Aside0.mk A80
 clear A80
 have c9b0 := eq_true (of_decide_eq_true as_ : 0 ≤ (l0.length : Int))
 have c10b0 := eq_true (of_decide_eq_true as_ : (l0.length : Int) ≤ (t397.length : Int))
 obtain ⟨y408, hy408⟩ : ∃ Y : List Int, Y = (t397.take ((l0.length : Int) : Int).toNat) := ⟨_, rfl⟩
 replace H : ((insn_Get.f k y408).bind fun bt412 => ((lockgateref02_Get.f k l0).bind fun bt416 => (if t407 = bt416.2 then (if bt412.2 = bt416.2 then ((lockgatekit_SameInsns.f k t404 bt416.1).bind fun t420 => (lockgatelaw02_InsnGets.j0 k l0 t397 t404 bt412.1 bt416.1 (!t420))) else (lockgatelaw02_InsnGets.j0 k l0 t397 t404 bt412.1 bt416.1 true)) else (lockgatelaw02_InsnGets.j0 k l0 t397 t404 bt412.1 bt416.1 true)))) = some r := by first | (rw [hy408]; with_reducible exact H) | (have H2_ := (Option.bind_some _ _).symm.trans H; rw [hy408]; with_reducible exact H2_) | (have H2_ := (Option.bind_some _ _).symm.trans H; with_reducible exact H2_) | with_reducible exact H | (rw [hy408]; exact H) | exact H
 have Ny408 := Aside0.mk hy408
 clear hy408
 replace H := Option.bind_eq_some_iff.mp H
 obtain ⟨⟨t412, t415⟩, A110, H⟩ := H
 (try dsimp only at H)
 have A11 := Aside0.mk A110
 clear A110
 replace H := Option.bind_eq_some_iff.mp H
 obtain ⟨⟨t416, t417⟩, A120, H⟩ := H
 (try dsimp only at H)
 have A12 := Aside0.mk A120
 clear A120
 have HC13 := Aside0.mk H
 clear H
 go_enter Try.func4, Try.ntmps4
 go_upto_region 7 with (first | ((with_reducible refine gate_callee (f := 18) rfl ?_); refine goesL_ (some 15) rfl rfl Try.func18 (by kernel_rfl) rfl #[.slice A0 l0.length c0] rfl mp_ ?_; (with_reducible refine (lockgatekit_LentBytes.calls k _ _ l0 t397 _ ?side1 ?side2 A5.out).mono ?_); (case side1 => exact ca_ HR0.out); (case side2 => exact HC0.out); rintro e w14 ⟨v398, rfl, ho0, hb⟩; refine ⟨_, rfl, ?_⟩; have HO399 := Aside0.mk (Kd.R_lower ho0 (below_size bz_)); replace HB := bl_ hb; (try clear hb); (try clear hk); (try clear ho0); obtain ⟨Ao16, co16, eo16⟩ := Kd.R_slice HO399.out; subst eo16; have q15 : ((l0.length : Int) : Int) ≤ ((t397.length : Int) : Int) := of_decide_eq_true as_; obtain ⟨i015, hi015, _, hsz15, _⟩ := info_parts info5; have hroom15 : t397.length ≤ co16 := (Kd.R_reads' HO399.out).2.1; have hC15 : Kd.C (Kd.int .u8) _ Ao16 t397.length t397 := (Kd.R_reads' HO399.out).2.2; have hcut15 := cut_to (P := Try.prog) 25 5 .i64 Try.underlying25 hi015 Ao16 t397.length co16 (l0.length : Int) (of_decide_eq_true as_) q15 hroom15; have hr15 := Kd.C_take (m := ((l0.length : Int) : Int).toNat) hC15 (by omega); have hy15 : y400.length = ((l0.length : Int) : Int).toNat := (by rw [Ny400.out, List.length_take]; omega); rw [← Ny400.out] at hr15; rw [← hy15] at hcut15; have HR403 := Aside0.mk hr15; have HC403 := Aside0.mk (show y400.length ≤ co16 from by omega); clear hr15 hC15 hroom15 hi015 hsz15; have KY15 := Aside0.mk hy15; clear hy15; have KL15 := Aside0.mk (show ((l0.length : Int) : Int).toNat ≤ t397.length from by omega); replace q15 := eq_true q15) | ((with_reducible refine gate_callee (f := 19) rfl ?_); refine goesL_ (some 21) rfl rfl Try.func19 (by kernel_rfl) rfl #[.slice Ao16 y400.length co16] rfl mp_ ?_; (with_reducible refine (insn_Get.calls k (fun k_ => True) _ _ y400 t404 t407 _ ?side1 A8.out).mono ?_); (case side1 => exact Kd.V_mono (Kd.V_mk HC403.out (Kd.C_F (Kd.heap_int .u8) (by repeat (first | (with_reducible exact HR403.out) | (with_reducible refine Kd.C_alloc ?_ _) | (with_reducible refine Kd.C_drewN ?_ _) | (with_reducible refine Kd.C_drew ?_) | exact HR403.out)))) (fun _ _ => trivial)); rintro e w17 ⟨v405, rfl, ho0, hb⟩; refine ⟨_, rfl, ?_⟩; have HO406 := Aside0.mk (Kd.R_lower (Kd.R_mono (ok' := fun k_ => True) ho0 (fun _ hk_ => trivial)) (below_size bz_)); replace HO399 := Aside0.mk (Kd.R_below (ra_ HO399.out) hb); replace HR403 := Aside0.mk (Kd.C_below (by repeat (first | (with_reducible exact HR403.out) | (with_reducible refine Kd.C_alloc ?_ _) | (with_reducible refine Kd.C_drewN ?_ _) | (with_reducible refine Kd.C_drew ?_) | exact HR403.out)) hb); replace HB := bl_ hb; (try clear hb); (try clear hk); (try clear ho0); have q18 : ((l0.length : Int) : Int) ≤ ((t397.length : Int) : Int) := of_decide_eq_true as_; obtain ⟨i018, hi018, _, hsz18, _⟩ := info_parts info5; have hroom18 : t397.length ≤ co16 := (Kd.R_reads' HO399.out).2.1; have hC18 : Kd.C (Kd.int .u8) _ Ao16 t397.length t397 := (Kd.R_reads' HO399.out).2.2; (try clear hcut15); have hcut18 := cut_to (P := Try.prog) 25 5 .i64 Try.underlying25 hi018 Ao16 t397.length co16 (l0.length : Int) (of_decide_eq_true as_) q18 hroom18; have hr18 := Kd.C_take (m := ((l0.length : Int) : Int).toNat) hC18 (by omega); have hy18 : y408.length = ((l0.length : Int) : Int).toNat := (by rw [Ny408.out, List.length_take]; omega); rw [← Ny408.out] at hr18; rw [← hy18] at hcut18; have HR411 := Aside0.mk hr18; have HC411 := Aside0.mk (show y408.length ≤ co16 from by omega); clear hr18 hC18 hroom18 hi018 hsz18; have KY18 := Aside0.mk hy18; clear hy18; have KL18 := Aside0.mk (show ((l0.length : Int) : Int).toNat ≤ t397.length from by omega); replace q18 := eq_true q18) | ((with_reducible refine gate_callee (f := 19) rfl ?_); refine goesL_ (some 29) rfl rfl Try.func19 (by kernel_rfl) rfl #[.slice Ao16 y408.length co16] rfl mp_ ?_; (with_reducible refine (insn_Get.calls k (fun k_ => True) _ _ y408 t412 t415 _ ?side1 A11.out).mono ?_); (case side1 => exact Kd.V_mono (Kd.V_mk HC411.out (Kd.C_F (Kd.heap_int .u8) (by repeat (first | (with_reducible exact HR411.out) | (with_reducible refine Kd.C_alloc ?_ _) | (with_reducible refine Kd.C_drewN ?_ _) | (with_reducible refine Kd.C_drew ?_) | exact HR411.out)))) (fun _ _ => trivial)); rintro e w19 ⟨v413, rfl, ho0, hb⟩; refine ⟨_, rfl, ?_⟩; have n0_ := Aside0.mk (Kd.R_below (ra_ HO399.out) hb); have n1_ := Aside0.mk (Kd.R_elder' (ra_ HO406.out) (Kd.R_base ho0) hb); have n2_ := Aside0.mk (Kd.R_lower (Kd.R_new' (Kd.R_mono (ok' := fun k_ => True) ho0 (fun _ hk_ => trivial)) (Kd.R_lt (ra_ HO406.out))) (below_size bz_)); have n3_ := Aside0.mk (Kd.C_below (by repeat (first | (with_reducible exact HR403.out) | (with_reducible refine Kd.C_alloc ?_ _) | (with_reducible refine Kd.C_drewN ?_ _) | (with_reducible refine Kd.C_drew ?_) | exact HR403.out)) hb); have n4_ := Aside0.mk (Kd.C_below (by repeat (first | (with_reducible exact HR411.out) | (with_reducible refine Kd.C_alloc ?_ _) | (with_reducible refine Kd.C_drewN ?_ _) | (with_reducible refine Kd.C_drew ?_) | exact HR411.out)) hb); have n5_ := bl_ hb; clear HO399; clear HO406; clear HR403; clear HR411; clear HB; have HO399 := n0_; have HO406 := n1_; have HO414 := n2_; have HR403 := n3_; have HR411 := n4_; have HB := n5_; clear n0_ n1_ n2_ n3_ n4_ n5_; (try clear hb); (try clear hk); (try clear ho0)) | ((with_reducible refine gate_callee (f := 20) rfl ?_); refine goesL_ (some 34) rfl rfl Try.func20 (by kernel_rfl) rfl #[.slice A0 l0.length c0] rfl mp_ ?_; (with_reducible refine (lockgateref02_Get.calls k _ _ l0 t416 t417 _ ?side1 ?side2 A12.out).mono ?_); (case side1 => exact ca_ (Kd.C_below HR0.out HB.out)); (case side2 => exact HC0.out); rintro e w20 ⟨v418, rfl, ho0, hb⟩; refine ⟨_, rfl, ?_⟩; have n0_ := Aside0.mk (Kd.R_below (ra_ HO399.out) hb); have n1_ := Aside0.mk (Kd.R_elder' (ra_ HO406.out) (Kd.R_base ho0) hb); have n2_ := Aside0.mk (Kd.R_elder' (ra_ HO414.out) (Kd.R_base ho0) hb); have n3_ := Aside0.mk (Kd.R_lower (Kd.R_new' (Kd.R_new' ho0 (Kd.R_lt (ra_ HO406.out))) (Kd.R_lt (ra_ HO414.out))) (below_size bz_)); have n4_ := Aside0.mk (Kd.C_below (by repeat (first | (with_reducible exact HR403.out) | (with_reducible refine Kd.C_alloc ?_ _) | (with_reducible refine Kd.C_drewN ?_ _) | (with_reducible refine Kd.C_drew ?_) | exact HR403.out)) hb); have n5_ := Aside0.mk (Kd.C_below (by repeat (first | (with_reducible exact HR411.out) | (with_reducible refine Kd.C_alloc ?_ _) | (with_reducible refine Kd.C_drewN ?_ _) | (with_reducible refine Kd.C_drew ?_) | exact HR411.out)) hb); have n6_ := bl_ hb; clear HO399; clear HO406; clear HO414; clear HR403; clear HR411; clear HB; have HO399 := n0_; have HO406 := n1_; have HO414 := n2_; have HO419 := n3_; have HR403 := n4_; have HR411 := n5_; have HB := n6_; clear n0_ n1_ n2_ n3_ n4_ n5_ n6_; (try clear hb); (try clear hk); (try clear ho0)))
 (try simp only [Act.put, s1_, s2_, s3_])
 go_cut [50] (fun v50 wc => ∃ (kq : Nat) (x50_12 : Bool), v50 = .bool x50_12 ∧ Aside0 (lockgatelaw02_InsnGets.j0 kq l0 t397 t404 t412 t416 x50_12 = some r) ∧ Aside0 (kq ≤ k) ∧ Aside0 (Kd.R (Kd.int .u8) 5 wc w.heap.size (fun _ => True) (.slice Ao16 t397.length co16) t397) ∧ Aside0 (Kd.R k40 40 wc w.heap.size (fun k_ => some k_ ≠ (v413 : Value).ownBlock ∧ some k_ ≠ (v418 : Value).ownBlock) v405 t404) ∧ Aside0 (Kd.R k40 40 wc w.heap.size (fun k_ => some k_ ≠ (v405 : Value).ownBlock ∧ some k_ ≠ (v418 : Value).ownBlock) v413 t412) ∧ Aside0 (Kd.R k40 40 wc w.heap.size (fun k_ => some k_ ≠ (v405 : Value).ownBlock ∧ some k_ ≠ (v413 : Value).ownBlock) v418 t416) ∧ Aside0 (Kd.C (Kd.int .u8) wc Ao16 y400.length y400) ∧ Aside0 (Kd.C (Kd.int .u8) wc Ao16 y408.length y408) ∧ Aside0 (Below w.heap.size w wc))
 case first =>
  have H := HC13.out
  clear HC13
  by_cases c21 : t407 = t417
  rotate_left
  ·rw [if_neg c21] at H
   have c21b0 : (t407 == t417) = false := beq_eq_false_iff_ne.mpr c21
   have c21b1 : (t407 != t417) = true := bne_iff_ne.mpr c21
   (first | rw [c21b0] | (simp only [i64_w, i32_w]; rw [c21b0]) | skip)
   exfalso
   cases k with
   | zero => rw [lockgatelaw02_InsnGets.j0] at H; exact nomatch H
   | succ q_ => rw [lockgatelaw02_InsnGets.j0, if_pos rfl] at H; exact absurd ((Option.some.inj H).trans HRT.out) (by decide)
  rw [if_pos c21] at H
  have c21b0 : (t407 == t417) = true := beq_iff_eq.mpr c21
  have c21b1 : (t407 != t417) = false := bne_eq_false_iff_eq.mpr c21
  clear c21
  (first | rw [c21b0] | (simp only [i64_w, i32_w]; rw [c21b0]) | skip)
  by_cases c22 : t415 = t417
  ·rw [if_pos c22] at H
   have c22b0 : (t415 == t417) = true := beq_iff_eq.mpr c22
   have c22b1 : (t415 != t417) = false := bne_eq_false_iff_eq.mpr c22
   clear c22
   replace H := Option.bind_eq_some_iff.mp H
   obtain ⟨t420, A230, H⟩ := H
   (try dsimp only at H)
   have A23 := Aside0.mk A230
   clear A230
   have H' := Aside0.mk H
   clear H
   obtain ⟨Ao24, co24, eo24⟩ := Kd.R_slice HO406.out
   subst eo24
   obtain ⟨Ao25, co25, eo25⟩ := Kd.R_slice HO419.out
   subst eo25
   go_wp2_with (first | (go_at_call 21; (with_reducible refine (lockgatekit_SameInsns.calls k _ _ t404 _ _ t416 t420 _ ?side1 ?side2 ?side3 ?side4 A23.out).mono ?_); (case side1 => exact ca_ ((Kd.R_reads' HO406.out).2.2)); (case side2 => exact (Kd.R_reads' HO406.out).2.1); (case side3 => exact ca_ ((Kd.R_reads' HO419.out).2.2)); (case side4 => exact (Kd.R_reads' HO419.out).2.1); rintro e w' ⟨rfl, ⟨nd, rfl⟩⟩))
   go_meet
   case rel => exact ⟨_, (!t420), vs_, H', ⟨by first | omega | exact Nat.le_refl _⟩, ⟨by (with_reducible repeat (first | apply Kd.R_alloc | apply Kd.R_drewN | apply Kd.R_drew)); exact HO399.out⟩, ⟨by (with_reducible repeat (first | apply Kd.R_alloc | apply Kd.R_drewN | apply Kd.R_drew)); exact Kd.R_mono HO406.out (fun _ hk => ⟨hk.1.2, hk.2⟩)⟩, ⟨by (with_reducible repeat (first | apply Kd.R_alloc | apply Kd.R_drewN | apply Kd.R_drew)); exact Kd.R_mono HO414.out (fun _ hk => ⟨hk.1.2, hk.2⟩)⟩, ⟨by (with_reducible repeat (first | apply Kd.R_alloc | apply Kd.R_drewN | apply Kd.R_drew)); exact Kd.R_mono HO419.out (fun _ hk => ⟨hk.1.2, hk.2⟩)⟩, ⟨by repeat (first | (with_reducible exact HR403.out) | (with_reducible refine Kd.C_alloc ?_ _) | (with_reducible refine Kd.C_drewN ?_ _) | (with_reducible refine Kd.C_drew ?_) | exact HR403.out)⟩, ⟨by repeat (first | (with_reducible exact HR411.out) | (with_reducible refine Kd.C_alloc ?_ _) | (with_reducible refine Kd.C_drewN ?_ _) | (with_reducible refine Kd.C_drew ?_) | exact HR411.out)⟩, ⟨bz_⟩⟩
  rw [if_neg c22] at H
  have c22b0 : (t415 == t417) = false := beq_eq_false_iff_ne.mpr c22
  have c22b1 : (t415 != t417) = true := bne_iff_ne.mpr c22
  exfalso
  cases k with
  | zero => rw [lockgatelaw02_InsnGets.j0] at H; exact nomatch H
  | succ q_ => rw [lockgatelaw02_InsnGets.j0, if_pos rfl] at H; exact absurd ((Option.some.inj H).trans HRT.out) (by decide)
 case rest =>
  clear HC13
  try clear c1
  try clear q1
  try clear c2
  try clear c2b0
  try clear c2b1
  try clear p2
  try clear c4
  try clear c6
  try clear c6b0
  try clear c6b1
  try clear c7
  try clear c7b0
  try clear c7b1
  try clear c9
  try clear c9b0
  try clear c10
  try clear c10b0
  try clear c11
  try clear q15
  try clear c18
  try clear q18
  try clear c19
  try clear c20
  try clear c21
  try clear c21b0
  try clear c21b1
  try clear c22
  try clear c22b0
  try clear c22b1
  try clear q15
  try clear q18
  obtain ⟨kq, x50_12, rfl, HA, HJ12, HO_3, HO_4, HO_6, HO_8, HR403, HR411, HB⟩ := hcut
  cases kq with
  | zero => exact absurd HA.out (by simp [lockgatelaw02_InsnGets.j0])
  | succ kj12 =>
   have H := HA.out
   clear HA
   simp only [lockgatelaw02_InsnGets.j0] at H
   by_cases c26 : x50_12 = true
   ·subst c26
    have H1 := if1_ H
    clear H
    have H := H1
    clear H1
    exact absurd ((Option.some.inj H).trans HRT.out) (by decide)
   replace c26 := Bool.eq_false_iff.mpr c26
   subst c26
   have H1 := if0_ H
   clear H
   have H := H1
   clear H1
   replace H := Option.bind_eq_some_iff.mp H
   obtain ⟨t421, A270, H⟩ := H
   (try dsimp only at H)
   have A27 := Aside0.mk A270
   clear A270
   replace H := Option.bind_eq_some_iff.mp H
   obtain ⟨t422, A280, H⟩ := H
   (try dsimp only at H)
   have A28 := Aside0.mk A280
   clear A280
   by_cases c29 : t422 = true
   rotate_left
   ·replace c29 := Bool.eq_false_iff.mpr c29
    subst c29
    have H1 := if0_ H
    clear H
    have H := H1
    clear H1
    exact absurd ((Option.some.inj H).trans HRT.out) (by decide)
   subst c29
   have H1 := if1_ H
   clear H
   have H := H1
   clear H1
   replace H := Option.bind_eq_some_iff.mp H
   obtain ⟨t423, A300, H⟩ := H
   (try dsimp only at H)
   have A30 := Aside0.mk A300
   clear A300
   by_cases c31 : t423 = true
   ·subst c31
    have H1 := if1_ H
    clear H
    have H := H1
    clear H1
    replace H := Option.bind_eq_some_iff.mp H
    obtain ⟨t424, A320, H⟩ := H
    (try dsimp only at H)
    have A32 := Aside0.mk A320
    clear A320
    obtain rfl := Option.some.inj H
    obtain ⟨Ao33, co33, eo33⟩ := Kd.R_slice HO_4.out
    subst eo33
    go_wp2_with (first | ((with_reducible refine gate_callee (f := 22) rfl ?_); refine goesL_ (some 52) rfl rfl Try.func22 (by kernel_rfl) rfl #[.slice Ao33 t404.length co33] rfl mp_ ?_; (with_reducible refine (lockgatekit_SpoilInsns.calls kj12 (fun k_ => some k_ = (.slice Ao33 t404.length co33 : Value).ownBlock) (.slice Ao33 t404.length co33) t404 t421 w _ ?side1 ?side2 A27.out).mono ?_); (case side1 => repeat (first | (with_reducible first | exact HB.out | apply lA_ | apply lN_ | apply lD_) | exact HB.out)); (case side2 => exact Kd.R_tight rfl HO_4.out); rintro e w34 ⟨rfl, hy0, hb, hkp⟩; refine ⟨_, rfl, ?_⟩; have n0_ := Aside0.mk (Kd.R_mono (ok' := fun k_ => True) (Kd.R_keptB ((Kd.R_apart' HO_3.out (Kd.R_typed HO_4.out) (by decide))) hkp (fun k_ hk_ hs_ => (hk_.2) hs_)) (fun k_ hk_ => trivial)); have n1_ := Aside0.mk (Kd.R_reok rfl hy0 (fun k_ e_ => HO_4.out.1 k_ e_)); have n2_ := Aside0.mk (Kd.R_mono (ok' := fun k_ => some k_ ≠ (.slice Ao33 t404.length co33 : Value).ownBlock ∧ some k_ ≠ (v418 : Value).ownBlock) (Kd.R_keptB (HO_6.out) hkp (fun k_ hk_ hs_ => (hk_.1) hs_)) (fun k_ hk_ => ⟨hk_.1.1, hk_.1.2⟩)); have n3_ := Aside0.mk (Kd.R_mono (ok' := fun k_ => some k_ ≠ (.slice Ao33 t404.length co33 : Value).ownBlock ∧ some k_ ≠ (v413 : Value).ownBlock) (Kd.R_keptB (HO_8.out) hkp (fun k_ hk_ hs_ => (hk_.1) hs_)) (fun k_ hk_ => ⟨hk_.1.1, hk_.1.2⟩)); have n4_ := Aside0.mk (hb); clear HO_3; clear HO_4; clear HO_6; clear HO_8; clear HB; have HO_3 := n0_; have HO_4 := n1_; have HO_6 := n2_; have HO_8 := n3_; have HB := n4_; clear n0_ n1_ n2_ n3_ n4_; (try clear hb); (try clear hkp); (try clear hy0); obtain ⟨Ao35, co35, eo35⟩ := Kd.R_slice HO_6.out; subst eo35; obtain ⟨Ao36, co36, eo36⟩ := Kd.R_slice HO_8.out; subst eo36) | ((with_reducible refine gate_callee (f := 21) rfl ?_); refine goesL_ (some 55) rfl rfl Try.func21 (by kernel_rfl) rfl #[.slice Ao35 t412.length co35, .slice Ao36 t416.length co36] rfl mp_ ?_; (with_reducible refine (lockgatekit_SameInsns.calls kj12 _ _ t412 _ _ t416 true _ ?side1 ?side2 ?side3 ?side4 A28.out).mono ?_); (case side1 => exact ca_ ((Kd.R_reads' HO_6.out).2.2)); (case side2 => exact (Kd.R_reads' HO_6.out).2.1); (case side3 => exact ca_ ((Kd.R_reads' HO_8.out).2.2)); (case side4 => exact (Kd.R_reads' HO_8.out).2.1); rintro e w' ⟨rfl, ⟨nd, rfl⟩⟩; refine ⟨_, rfl, ?_⟩) | (go_at_call 23; (with_reducible refine (lockgatekit_KeptBytes.calls kj12 _ _ t397 _ _ l0 true _ ?side1 ?side2 ?side3 ?side4 A30.out).mono ?_); (case side1 => exact ca_ ((Kd.R_reads' HO_3.out).2.2)); (case side2 => exact (Kd.R_reads' HO_3.out).2.1); (case side3 => exact ca_ (Kd.C_below HR0.out bz_)); (case side4 => exact HC0.out); rintro e w' ⟨rfl, ⟨nd, rfl⟩⟩) | (go_at_call 11; (with_reducible refine (lockgatelaw02_works.calls kj12  t424 _ A32.out).mono ?_); rintro e w37 ⟨rfl, hb⟩; replace HO_3 := Aside0.mk (Kd.R_below (ra_ HO_3.out) hb); replace HO_4 := Aside0.mk (Kd.R_below (ra_ HO_4.out) hb); replace HO_6 := Aside0.mk (Kd.R_below (ra_ HO_6.out) hb); replace HO_8 := Aside0.mk (Kd.R_below (ra_ HO_8.out) hb); replace HB := bl_ hb; (try clear hb); (try clear hk); ))
    go_ret
    exact ⟨vv_, bz_⟩
   replace c31 := Bool.eq_false_iff.mpr c31
   subst c31
   have H1 := if0_ H
   clear H
   have H := H1
   clear H1
   exact absurd ((Option.some.inj H).trans HRT.out) (by decide)
end Go.Proofs.Yticijjonimiooaa.PA
