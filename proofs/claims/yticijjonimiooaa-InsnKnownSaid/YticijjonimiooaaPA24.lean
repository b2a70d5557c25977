import Derived.Test.YticijjonimiooaaPA0
import Derived.Test.YticijjonimiooaaSq
import Derived.Test.YticijjonimiooaaPA6
import Derived.Test.YticijjonimiooaaPA10
import Derived.Test.YticijjonimiooaaPA11
import Derived.Test.YticijjonimiooaaPA12
import Derived.Test.YticijjonimiooaaPA20
import Derived.Test.YticijjonimiooaaPA23
namespace Go.Proofs.Yticijjonimiooaa.PA
open Go.RowKit Go.Proofs.YticijjonimiooaaW.PrintWords Go.Proofs.YticijjonimiooaaW.PrintLast Go.Proofs.YticijjonimiooaaW.PrintMore
attribute [local go_sem] max2_int min2_int max_two min_two max_three min_three max_four min_four
set_option linter.unusedVariables false
set_option linter.unusedSimpArgs false
def lockgatelaw02_InsnPuts.j0 : Nat → List (S40) → List (S40) → List Int → List Int → List Int → Bool → Option (Bool)
 | 0, _, _, _, _, _, _ => none
 | k + 1, x0, x3, x4, x6, x8, x50 => if x50 = true then (some false) else ((lockgatekit_SpoilBytes.f k x4).bind fun t341 => ((lockgatekit_SameBytes.f k x6 x8).bind fun t342 => (if t342 = true then ((lockgatekit_KeptInsns.f k x3 x0).bind fun t343 => (if t343 = true then ((lockgatelaw02_works.f k).bind fun t344 => (some t344)) else (some false))) else (some false))))
def lockgatelaw02_InsnPuts.f (k : Nat) (l0 : List (S40)) : Option (Bool) := if (l0.length : Int) > 400 then ((lockgatelaw02_works.f k).bind fun t316 => (some t316)) else ((lockgatekit_LentInsns.f k l0).bind fun t317 => (if 0 ≤ (l0.length : Int) then (if (l0.length : Int) ≤ (t317.length : Int) then ((insn_Put.f k (t317.take ((l0.length : Int) : Int).toNat)).bind fun bt324 => ((insn_Put.f k (t317.take ((l0.length : Int) : Int).toNat)).bind fun bt332 => ((lockgateref02_Put.f k l0).bind fun bt336 => (if bt324.2 = bt336.2 then (if bt332.2 = bt336.2 then ((lockgatekit_SameBytes.f k bt324.1 bt336.1).bind fun t340 => (lockgatelaw02_InsnPuts.j0 k l0 t317 bt324.1 bt332.1 bt336.1 (!t340))) else (lockgatelaw02_InsnPuts.j0 k l0 t317 bt324.1 bt332.1 bt336.1 true)) else (lockgatelaw02_InsnPuts.j0 k l0 t317 bt324.1 bt332.1 bt336.1 true))))) else (none)) else (none)))
theorem lockgatelaw02_InsnPuts.mono_l : ∀ k, (∀ y0 y1 y2 y3 y4 y5, LeO (lockgatelaw02_InsnPuts.j0 k y0 y1 y2 y3 y4 y5) (lockgatelaw02_InsnPuts.j0 (k + 1) y0 y1 y2 y3 y4 y5))
 | 0 => fun _ _ _ _ _ _ r h => by simp [lockgatelaw02_InsnPuts.j0] at h
 | k + 1 => by
  have ih0 := lockgatelaw02_InsnPuts.mono_l k
  intro y0 y1 y2 y3 y4 y5
  unfold lockgatelaw02_InsnPuts.j0
  repeat' first
  | (with_reducible exact ih0 _ _ _ _ _ _)
  | (with_reducible exact insn_Put.mono _ _)
  | (with_reducible exact lockgatekit_KeptInsns.mono _ _ _)
  | (with_reducible exact lockgatekit_LentInsns.mono _ _)
  | (with_reducible exact lockgatekit_SameBytes.mono _ _ _)
  | (with_reducible exact lockgatekit_SpoilBytes.mono _ _)
  | (with_reducible exact lockgatelaw02_works.mono _)
  | (with_reducible exact lockgateref02_Put.mono _ _)
  | (with_reducible exact LeO.refl _)
  | (with_reducible exact LeO.none _)
  | (with_reducible refine LeO.ite ?_ ?_)
  | (with_reducible refine LeO.bind ?_ (fun _ => ?_))
  | exact ih0 _ _ _ _ _ _
  | exact insn_Put.mono _ _
  | exact lockgatekit_KeptInsns.mono _ _ _
  | exact lockgatekit_LentInsns.mono _ _
  | exact lockgatekit_SameBytes.mono _ _ _
  | exact lockgatekit_SpoilBytes.mono _ _
  | exact lockgatelaw02_works.mono _
  | exact lockgateref02_Put.mono _ _
  | exact LeO.none _
  | refine LeO.ite ?_ ?_
  | refine LeO.bind ?_ (fun _ => ?_)
theorem lockgatelaw02_InsnPuts.mono : ∀ a0 k, LeO (lockgatelaw02_InsnPuts.f k a0) (lockgatelaw02_InsnPuts.f (k + 1) a0) := by
 intro a0 k
 have ih0 := lockgatelaw02_InsnPuts.mono_l k
 unfold lockgatelaw02_InsnPuts.f
 repeat' first
  | (with_reducible exact ih0 _ _ _ _ _ _)
  | (with_reducible exact insn_Put.mono _ _)
  | (with_reducible exact lockgatekit_KeptInsns.mono _ _ _)
  | (with_reducible exact lockgatekit_LentInsns.mono _ _)
  | (with_reducible exact lockgatekit_SameBytes.mono _ _ _)
  | (with_reducible exact lockgatekit_SpoilBytes.mono _ _)
  | (with_reducible exact lockgatelaw02_works.mono _)
  | (with_reducible exact lockgateref02_Put.mono _ _)
  | (with_reducible exact LeO.refl _)
  | (with_reducible exact LeO.none _)
  | (with_reducible refine LeO.ite ?_ ?_)
  | (with_reducible refine LeO.bind ?_ (fun _ => ?_))
  | exact ih0 _ _ _ _ _ _
  | exact insn_Put.mono _ _
  | exact lockgatekit_KeptInsns.mono _ _ _
  | exact lockgatekit_LentInsns.mono _ _
  | exact lockgatekit_SameBytes.mono _ _ _
  | exact lockgatekit_SpoilBytes.mono _ _
  | exact lockgatelaw02_works.mono _
  | exact lockgateref02_Put.mono _ _
  | exact LeO.none _
  | refine LeO.ite ?_ ?_
  | refine LeO.bind ?_ (fun _ => ?_)
set_option maxHeartbeats 8000000 in
set_option maxRecDepth 100000 in
theorem lockgatelaw02_InsnPuts.calls (k : Nat) (A0 : Option Addr) (c0 : Nat) (l0 : List (S40)) (r : Bool) (w : World) (hr0 : Kd.C k40 w A0 l0.length l0) (hc0 : l0.length ≤ c0) (HRT : Aside0 (r = true)) (h : lockgatelaw02_InsnPuts.f k l0 = some r) :
 Calls Try.prog 3 #[.slice A0 l0.length c0] w fun e w' => e = .returned (.bool r) ∧ Below w.heap.size w w' := by
 have HR0 := Aside0.mk hr0
 have HC0 := Aside0.mk hc0
 clear hr0 hc0
 have HB := Aside0.mk (Below.refl w.heap.size w)
 have H : (if (l0.length : Int) > 400 then ((lockgatelaw02_works.f k).bind fun t316 => (some t316)) else ((lockgatekit_LentInsns.f k l0).bind fun t317 => (if 0 ≤ (l0.length : Int) then (if (l0.length : Int) ≤ (t317.length : Int) then ((insn_Put.f k (t317.take ((l0.length : Int) : Int).toNat)).bind fun bt324 => ((insn_Put.f k (t317.take ((l0.length : Int) : Int).toNat)).bind fun bt332 => ((lockgateref02_Put.f k l0).bind fun bt336 => (if bt324.2 = bt336.2 then (if bt332.2 = bt336.2 then ((lockgatekit_SameBytes.f k bt324.1 bt336.1).bind fun t340 => (lockgatelaw02_InsnPuts.j0 k l0 t317 bt324.1 bt332.1 bt336.1 (!t340))) else (lockgatelaw02_InsnPuts.j0 k l0 t317 bt324.1 bt332.1 bt336.1 true)) else (lockgatelaw02_InsnPuts.j0 k l0 t317 bt324.1 bt332.1 bt336.1 true))))) else (none)) else (none)))) = some r := h
 clear h
 by_cases c2 : (l0.length : Int) > 400
 ·rw [if_pos c2] at H
  have c2b0 : decide (400 < (l0.length : Int)) = true := decide_eq_true c2
  have c2b1 : decide (400 < l0.length) = true := decide_eq_true (by omega)
  clear c2
  replace H := Option.bind_eq_some_iff.mp H
  obtain ⟨t316, A30, H⟩ := H
  (try dsimp only at H)
  have A3 := Aside0.mk A30
  clear A30
  obtain rfl := Option.some.inj H
  go_enter Try.func3, Try.ntmps3
  go_wp2_with (first | ((with_reducible refine gate_callee (f := 11) rfl ?_); refine gM_ 13 Try.func11 (lockgatelaw02_works.calls k  t316 _ A3.out) ?_; intro w4 hb; replace HB := bl_ hb; (try clear hb); (try clear hk); ))
  go_ret
  exact ⟨vv_, bz_⟩
 rw [if_neg c2] at H
 have c2b0 : decide (400 < (l0.length : Int)) = false := decide_eq_false c2
 have c2b1 : decide (400 < l0.length) = false := decide_eq_false (by omega)
 clear c2
 replace H := Option.bind_eq_some_iff.mp H
 obtain ⟨t317, A50, H⟩ := H
 (try dsimp only at H)
 have A5 := Aside0.mk A50
 clear A50
 by_cases c6 : 0 ≤ (l0.length : Int)
 rotate_left
 ·rw [if_neg c6] at H
  exact absurd H (by simp)
 rw [if_pos c6] at H
 have c6b0 := eq_true c6
 have c6b1 : decide (0 ≤ (l0.length : Int)) = true := decide_eq_true c6
 clear c6
 by_cases c7 : (l0.length : Int) ≤ (t317.length : Int)
 rotate_left
 ·rw [if_neg c7] at H
  exact absurd H (by simp)
 rw [if_pos c7] at H
 have c7b0 := eq_true c7
 have c7b1 : decide ((l0.length : Int) ≤ (t317.length : Int)) = true := decide_eq_true c7
 clear c7
 obtain ⟨y320, hy320⟩ : ∃ Y : List (S40), Y = (t317.take ((l0.length : Int) : Int).toNat) := ⟨_, rfl⟩
 replace H : ((insn_Put.f k y320).bind fun bt324 => ((insn_Put.f k (t317.take ((l0.length : Int) : Int).toNat)).bind fun bt332 => ((lockgateref02_Put.f k l0).bind fun bt336 => (if bt324.2 = bt336.2 then (if bt332.2 = bt336.2 then ((lockgatekit_SameBytes.f k bt324.1 bt336.1).bind fun t340 => (lockgatelaw02_InsnPuts.j0 k l0 t317 bt324.1 bt332.1 bt336.1 (!t340))) else (lockgatelaw02_InsnPuts.j0 k l0 t317 bt324.1 bt332.1 bt336.1 true)) else (lockgatelaw02_InsnPuts.j0 k l0 t317 bt324.1 bt332.1 bt336.1 true))))) = some r := by first | (rw [hy320]; with_reducible exact H) | (have H2_ := (Option.bind_some _ _).symm.trans H; rw [hy320]; with_reducible exact H2_) | (have H2_ := (Option.bind_some _ _).symm.trans H; with_reducible exact H2_) | with_reducible exact H | (rw [hy320]; exact H) | exact H
 have Ny320 := Aside0.mk hy320
 clear hy320
 replace H := Option.bind_eq_some_iff.mp H
 obtain ⟨⟨t324, t325⟩, A80, H⟩ := H
 (try dsimp only at H)
 have A8 := Aside0.mk A80
 clear A80
 have c9b0 := eq_true (of_decide_eq_true as_ : 0 ≤ (l0.length : Int))
 have c10b0 := eq_true (of_decide_eq_true as_ : (l0.length : Int) ≤ (t317.length : Int))
 obtain ⟨y328, hy328⟩ : ∃ Y : List (S40), Y = (t317.take ((l0.length : Int) : Int).toNat) := ⟨_, rfl⟩
 replace H : ((insn_Put.f k y328).bind fun bt332 => ((lockgateref02_Put.f k l0).bind fun bt336 => (if t325 = bt336.2 then (if bt332.2 = bt336.2 then ((lockgatekit_SameBytes.f k t324 bt336.1).bind fun t340 => (lockgatelaw02_InsnPuts.j0 k l0 t317 t324 bt332.1 bt336.1 (!t340))) else (lockgatelaw02_InsnPuts.j0 k l0 t317 t324 bt332.1 bt336.1 true)) else (lockgatelaw02_InsnPuts.j0 k l0 t317 t324 bt332.1 bt336.1 true)))) = some r := by first | (rw [hy328]; with_reducible exact H) | (have H2_ := (Option.bind_some _ _).symm.trans H; rw [hy328]; with_reducible exact H2_) | (have H2_ := (Option.bind_some _ _).symm.trans H; with_reducible exact H2_) | with_reducible exact H | (rw [hy328]; exact H) | exact H
 have Ny328 := Aside0.mk hy328
 clear hy328
 replace H := Option.bind_eq_some_iff.mp H
 obtain ⟨⟨t332, t333⟩, A110, H⟩ := H
 (try dsimp only at H)
 have A11 := Aside0.mk A110
 clear A110
 replace H := Option.bind_eq_some_iff.mp H
 obtain ⟨⟨t336, t337⟩, A120, H⟩ := H
 (try dsimp only at H)
 have A12 := Aside0.mk A120
 clear A120
 have HC13 := Aside0.mk H
 clear H
 go_enter Try.func3, Try.ntmps3
 go_upto_region 7 with (first | ((with_reducible refine gate_callee (f := 12) rfl ?_); refine goesL_ (some 15) rfl rfl Try.func12 (by kernel_rfl) rfl #[.slice A0 l0.length c0] rfl mp_ ?_; (with_reducible refine (lockgatekit_LentInsns.calls k _ _ l0 t317 _ ?side1 ?side2 A5.out).mono ?_); (case side1 => exact ca_ HR0.out); (case side2 => exact HC0.out); rintro e w14 ⟨v318, rfl, ho0, hb⟩; refine ⟨_, rfl, ?_⟩; have HO319 := Aside0.mk (Kd.R_lower ho0 (below_size bz_)); replace HB := bl_ hb; (try clear hb); (try clear hk); (try clear ho0); obtain ⟨Ao16, co16, eo16⟩ := Kd.R_slice HO319.out; subst eo16; have q15 : ((l0.length : Int) : Int) ≤ ((t317.length : Int) : Int) := of_decide_eq_true as_; obtain ⟨i015, hi015, _, hsz15, _⟩ := info_parts info40; have hroom15 : t317.length ≤ co16 := (Kd.R_reads' HO319.out).2.1; have hC15 : Kd.C k40 _ Ao16 t317.length t317 := (Kd.R_reads' HO319.out).2.2; have hcut15 := cut_to (P := Try.prog) 22 40 .i64 Try.underlying22 hi015 Ao16 t317.length co16 (l0.length : Int) (of_decide_eq_true as_) q15 hroom15; have hr15 := Kd.C_take (m := ((l0.length : Int) : Int).toNat) hC15 (by omega); have hy15 : y320.length = ((l0.length : Int) : Int).toNat := (by rw [Ny320.out, List.length_take]; omega); rw [← Ny320.out] at hr15; rw [← hy15] at hcut15; have HR323 := Aside0.mk hr15; have HC323 := Aside0.mk (show y320.length ≤ co16 from by omega); clear hr15 hC15 hroom15 hi015 hsz15; have KY15 := Aside0.mk hy15; clear hy15; have KL15 := Aside0.mk (show ((l0.length : Int) : Int).toNat ≤ t317.length from by omega); replace q15 := eq_true q15) | ((with_reducible refine gate_callee (f := 13) rfl ?_); refine goesL_ (some 21) rfl rfl Try.func13 (by kernel_rfl) rfl #[.slice Ao16 y320.length co16] rfl mp_ ?_; (with_reducible refine (insn_Put.calls k _ _ y320 t324 t325 _ ?side1 ?side2 A8.out).mono ?_); (case side1 => repeat (first | exact (by repeat (first | (with_reducible exact HR323.out) | (with_reducible refine Kd.C_alloc ?_ _) | (with_reducible refine Kd.C_drewN ?_ _) | (with_reducible refine Kd.C_drew ?_) | exact HR323.out)) | (with_reducible refine Kd.C_alloc ?_ _) | (with_reducible refine Kd.C_drewN ?_ _) | (with_reducible refine Kd.C_drew ?_))); (case side2 => exact HC323.out); rintro e w17 ⟨v326, rfl, ho0, hb⟩; refine ⟨_, rfl, ?_⟩; have HO327 := Aside0.mk (Kd.R_lower ho0 (below_size bz_)); replace HO319 := Aside0.mk (Kd.R_below (ra_ HO319.out) hb); replace HR323 := Aside0.mk (Kd.C_below (by repeat (first | (with_reducible exact HR323.out) | (with_reducible refine Kd.C_alloc ?_ _) | (with_reducible refine Kd.C_drewN ?_ _) | (with_reducible refine Kd.C_drew ?_) | exact HR323.out)) hb); replace HB := bl_ hb; (try clear hb); (try clear hk); (try clear ho0); have q18 : ((l0.length : Int) : Int) ≤ ((t317.length : Int) : Int) := of_decide_eq_true as_; obtain ⟨i018, hi018, _, hsz18, _⟩ := info_parts info40; have hroom18 : t317.length ≤ co16 := (Kd.R_reads' HO319.out).2.1; have hC18 : Kd.C k40 _ Ao16 t317.length t317 := (Kd.R_reads' HO319.out).2.2; (try clear hcut15); have hcut18 := cut_to (P := Try.prog) 22 40 .i64 Try.underlying22 hi018 Ao16 t317.length co16 (l0.length : Int) (of_decide_eq_true as_) q18 hroom18; have hr18 := Kd.C_take (m := ((l0.length : Int) : Int).toNat) hC18 (by omega); have hy18 : y328.length = ((l0.length : Int) : Int).toNat := (by rw [Ny328.out, List.length_take]; omega); rw [← Ny328.out] at hr18; rw [← hy18] at hcut18; have HR331 := Aside0.mk hr18; have HC331 := Aside0.mk (show y328.length ≤ co16 from by omega); clear hr18 hC18 hroom18 hi018 hsz18; have KY18 := Aside0.mk hy18; clear hy18; have KL18 := Aside0.mk (show ((l0.length : Int) : Int).toNat ≤ t317.length from by omega); replace q18 := eq_true q18) | ((with_reducible refine gate_callee (f := 13) rfl ?_); refine goesL_ (some 29) rfl rfl Try.func13 (by kernel_rfl) rfl #[.slice Ao16 y328.length co16] rfl mp_ ?_; (with_reducible refine (insn_Put.calls k _ _ y328 t332 t333 _ ?side1 ?side2 A11.out).mono ?_); (case side1 => repeat (first | exact (by repeat (first | (with_reducible exact HR331.out) | (with_reducible refine Kd.C_alloc ?_ _) | (with_reducible refine Kd.C_drewN ?_ _) | (with_reducible refine Kd.C_drew ?_) | exact HR331.out)) | (with_reducible refine Kd.C_alloc ?_ _) | (with_reducible refine Kd.C_drewN ?_ _) | (with_reducible refine Kd.C_drew ?_))); (case side2 => exact HC331.out); rintro e w19 ⟨v334, rfl, ho0, hb⟩; refine ⟨_, rfl, ?_⟩; have n0_ := Aside0.mk (Kd.R_below (ra_ HO319.out) hb); have n1_ := Aside0.mk (Kd.R_elder' (ra_ HO327.out) (Kd.R_base ho0) hb); have n2_ := Aside0.mk (Kd.R_lower (Kd.R_new' ho0 (Kd.R_lt (ra_ HO327.out))) (below_size bz_)); have n3_ := Aside0.mk (Kd.C_below (by repeat (first | (with_reducible exact HR323.out) | (with_reducible refine Kd.C_alloc ?_ _) | (with_reducible refine Kd.C_drewN ?_ _) | (with_reducible refine Kd.C_drew ?_) | exact HR323.out)) hb); have n4_ := Aside0.mk (Kd.C_below (by repeat (first | (with_reducible exact HR331.out) | (with_reducible refine Kd.C_alloc ?_ _) | (with_reducible refine Kd.C_drewN ?_ _) | (with_reducible refine Kd.C_drew ?_) | exact HR331.out)) hb); have n5_ := bl_ hb; clear HO319; clear HO327; clear HR323; clear HR331; clear HB; have HO319 := n0_; have HO327 := n1_; have HO335 := n2_; have HR323 := n3_; have HR331 := n4_; have HB := n5_; clear n0_ n1_ n2_ n3_ n4_ n5_; (try clear hb); (try clear hk); (try clear ho0)) | ((with_reducible refine gate_callee (f := 14) rfl ?_); refine goesL_ (some 34) rfl rfl Try.func14 (by kernel_rfl) rfl #[.slice A0 l0.length c0] rfl mp_ ?_; (with_reducible refine (lockgateref02_Put.calls k _ _ l0 t336 t337 _ ?side1 ?side2 A12.out).mono ?_); (case side1 => exact ca_ (Kd.C_below HR0.out HB.out)); (case side2 => exact HC0.out); rintro e w20 ⟨v338, rfl, ho0, hb⟩; refine ⟨_, rfl, ?_⟩; have n0_ := Aside0.mk (Kd.R_below (ra_ HO319.out) hb); have n1_ := Aside0.mk (Kd.R_elder' (ra_ HO327.out) (Kd.R_base ho0) hb); have n2_ := Aside0.mk (Kd.R_elder' (ra_ HO335.out) (Kd.R_base ho0) hb); have n3_ := Aside0.mk (Kd.R_lower (Kd.R_new' (Kd.R_new' ho0 (Kd.R_lt (ra_ HO327.out))) (Kd.R_lt (ra_ HO335.out))) (below_size bz_)); have n4_ := Aside0.mk (Kd.C_below (by repeat (first | (with_reducible exact HR323.out) | (with_reducible refine Kd.C_alloc ?_ _) | (with_reducible refine Kd.C_drewN ?_ _) | (with_reducible refine Kd.C_drew ?_) | exact HR323.out)) hb); have n5_ := Aside0.mk (Kd.C_below (by repeat (first | (with_reducible exact HR331.out) | (with_reducible refine Kd.C_alloc ?_ _) | (with_reducible refine Kd.C_drewN ?_ _) | (with_reducible refine Kd.C_drew ?_) | exact HR331.out)) hb); have n6_ := bl_ hb; clear HO319; clear HO327; clear HO335; clear HR323; clear HR331; clear HB; have HO319 := n0_; have HO327 := n1_; have HO335 := n2_; have HO339 := n3_; have HR323 := n4_; have HR331 := n5_; have HB := n6_; clear n0_ n1_ n2_ n3_ n4_ n5_ n6_; (try clear hb); (try clear hk); (try clear ho0)))
 (try simp only [Act.put, s1_, s2_, s3_])
 go_cut [50] (fun v50 wc => ∃ (kq : Nat) (x50_12 : Bool), v50 = .bool x50_12 ∧ Aside0 (lockgatelaw02_InsnPuts.j0 kq l0 t317 t324 t332 t336 x50_12 = some r) ∧ Aside0 (kq ≤ k) ∧ Aside0 (Kd.R k40 40 wc w.heap.size (fun _ => True) (.slice Ao16 t317.length co16) t317) ∧ Aside0 (Kd.R (Kd.int .u8) 5 wc w.heap.size (fun k_ => some k_ ≠ (v334 : Value).ownBlock ∧ some k_ ≠ (v338 : Value).ownBlock) v326 t324) ∧ Aside0 (Kd.R (Kd.int .u8) 5 wc w.heap.size (fun k_ => some k_ ≠ (v326 : Value).ownBlock ∧ some k_ ≠ (v338 : Value).ownBlock) v334 t332) ∧ Aside0 (Kd.R (Kd.int .u8) 5 wc w.heap.size (fun k_ => some k_ ≠ (v326 : Value).ownBlock ∧ some k_ ≠ (v334 : Value).ownBlock) v338 t336) ∧ Aside0 (Kd.C k40 wc Ao16 y320.length y320) ∧ Aside0 (Kd.C k40 wc Ao16 y328.length y328) ∧ Aside0 (Below w.heap.size w wc))
 case first =>
  have H := HC13.out
  clear HC13
  by_cases c21 : t325 = t337
  rotate_left
  ·rw [if_neg c21] at H
   have c21b0 : (t325 == t337) = false := beq_eq_false_iff_ne.mpr c21
   have c21b1 : (t325 != t337) = true := bne_iff_ne.mpr c21
   (first | rw [c21b0] | (simp only [i64_w, i32_w]; rw [c21b0]) | skip)
   exfalso
   cases k with
   | zero => rw [lockgatelaw02_InsnPuts.j0] at H; exact nomatch H
   | succ q_ => rw [lockgatelaw02_InsnPuts.j0, if_pos rfl] at H; exact absurd ((Option.some.inj H).trans HRT.out) (by decide)
  rw [if_pos c21] at H
  have c21b0 : (t325 == t337) = true := beq_iff_eq.mpr c21
  have c21b1 : (t325 != t337) = false := bne_eq_false_iff_eq.mpr c21
  clear c21
  (first | rw [c21b0] | (simp only [i64_w, i32_w]; rw [c21b0]) | skip)
  by_cases c22 : t333 = t337
  ·rw [if_pos c22] at H
   have c22b0 : (t333 == t337) = true := beq_iff_eq.mpr c22
   have c22b1 : (t333 != t337) = false := bne_eq_false_iff_eq.mpr c22
   clear c22
   replace H := Option.bind_eq_some_iff.mp H
   obtain ⟨t340, A230, H⟩ := H
   (try dsimp only at H)
   have A23 := Aside0.mk A230
   clear A230
   have H' := Aside0.mk H
   clear H
   obtain ⟨Ao24, co24, eo24⟩ := Kd.R_slice HO327.out
   subst eo24
   obtain ⟨Ao25, co25, eo25⟩ := Kd.R_slice HO339.out
   subst eo25
   go_wp2_with (first | (go_at_call 15; (with_reducible refine (lockgatekit_SameBytes.calls k _ _ t324 _ _ t336 t340 _ ?side1 ?side2 ?side3 ?side4 A23.out).mono ?_); (case side1 => exact ca_ ((Kd.R_reads' HO327.out).2.2)); (case side2 => exact (Kd.R_reads' HO327.out).2.1); (case side3 => exact ca_ ((Kd.R_reads' HO339.out).2.2)); (case side4 => exact (Kd.R_reads' HO339.out).2.1); rintro e w' ⟨rfl, ⟨nd, rfl⟩⟩))
   go_meet
   case rel => exact ⟨_, (!t340), vs_, H', ⟨by first | omega | exact Nat.le_refl _⟩, ⟨by (with_reducible repeat (first | apply Kd.R_alloc | apply Kd.R_drewN | apply Kd.R_drew)); exact HO319.out⟩, ⟨by (with_reducible repeat (first | apply Kd.R_alloc | apply Kd.R_drewN | apply Kd.R_drew)); exact Kd.R_mono HO327.out (fun _ hk => ⟨hk.1.2, hk.2⟩)⟩, ⟨by (with_reducible repeat (first | apply Kd.R_alloc | apply Kd.R_drewN | apply Kd.R_drew)); exact Kd.R_mono HO335.out (fun _ hk => ⟨hk.1.2, hk.2⟩)⟩, ⟨by (with_reducible repeat (first | apply Kd.R_alloc | apply Kd.R_drewN | apply Kd.R_drew)); exact Kd.R_mono HO339.out (fun _ hk => ⟨hk.1.2, hk.2⟩)⟩, ⟨by repeat (first | (with_reducible exact HR323.out) | (with_reducible refine Kd.C_alloc ?_ _) | (with_reducible refine Kd.C_drewN ?_ _) | (with_reducible refine Kd.C_drew ?_) | exact HR323.out)⟩, ⟨by repeat (first | (with_reducible exact HR331.out) | (with_reducible refine Kd.C_alloc ?_ _) | (with_reducible refine Kd.C_drewN ?_ _) | (with_reducible refine Kd.C_drew ?_) | exact HR331.out)⟩, ⟨bz_⟩⟩
  rw [if_neg c22] at H
  have c22b0 : (t333 == t337) = false := beq_eq_false_iff_ne.mpr c22
  have c22b1 : (t333 != t337) = true := bne_iff_ne.mpr c22
  exfalso
  cases k with
  | zero => rw [lockgatelaw02_InsnPuts.j0] at H; exact nomatch H
  | succ q_ => rw [lockgatelaw02_InsnPuts.j0, if_pos rfl] at H; exact absurd ((Option.some.inj H).trans HRT.out) (by decide)
 case rest =>
  clear HC13
  try clear c1
  try clear q1
  try clear c2
  try clear c2b0
  try clear c2b1
  try clear p2
  try clear c3
  try clear c6
  try clear c6b0
  try clear c6b1
  try clear c7
  try clear c7b0
  try clear c7b1
  try clear c9
  try clear c9b0
  try clear c10
  try clear c10b0
  try clear c11
  try clear c12
  try clear c13
  try clear c14
  try clear q15
  try clear q18
  try clear c21
  try clear c21b0
  try clear c21b1
  try clear c22
  try clear c22b0
  try clear c22b1
  try clear q15
  try clear q18
  obtain ⟨kq, x50_12, rfl, HA, HJ12, HO_3, HO_4, HO_6, HO_8, HR323, HR331, HB⟩ := hcut
  cases kq with
  | zero => exact absurd HA.out (by simp [lockgatelaw02_InsnPuts.j0])
  | succ kj12 =>
   have H := HA.out
   clear HA
   simp only [lockgatelaw02_InsnPuts.j0] at H
   by_cases c26 : x50_12 = true
   ·subst c26
    have H1 := if1_ H
    clear H
    have H := H1
    clear H1
    exact absurd ((Option.some.inj H).trans HRT.out) (by decide)
   replace c26 := Bool.eq_false_iff.mpr c26
   subst c26
   have H1 := if0_ H
   clear H
   have H := H1
   clear H1
   replace H := Option.bind_eq_some_iff.mp H
   obtain ⟨t341, A270, H⟩ := H
   (try dsimp only at H)
   have A27 := Aside0.mk A270
   clear A270
   replace H := Option.bind_eq_some_iff.mp H
   obtain ⟨t342, A280, H⟩ := H
   (try dsimp only at H)
   have A28 := Aside0.mk A280
   clear A280
   by_cases c29 : t342 = true
   rotate_left
   ·replace c29 := Bool.eq_false_iff.mpr c29
    subst c29
    have H1 := if0_ H
    clear H
    have H := H1
    clear H1
    exact absurd ((Option.some.inj H).trans HRT.out) (by decide)
   subst c29
   have H1 := if1_ H
   clear H
   have H := H1
   clear H1
   replace H := Option.bind_eq_some_iff.mp H
   obtain ⟨t343, A300, H⟩ := H
   (try dsimp only at H)
   have A30 := Aside0.mk A300
   clear A300
   by_cases c31 : t343 = true
   ·subst c31
    have H1 := if1_ H
    clear H
    have H := H1
    clear H1
    replace H := Option.bind_eq_some_iff.mp H
    obtain ⟨t344, A320, H⟩ := H
    (try dsimp only at H)
    have A32 := Aside0.mk A320
    clear A320
    obtain rfl := Option.some.inj H
    obtain ⟨Ao33, co33, eo33⟩ := Kd.R_slice HO_4.out
    subst eo33
    go_wp2_with (first | ((with_reducible refine gate_callee (f := 16) rfl ?_); refine goesL_ (some 52) rfl rfl Try.func16 (by kernel_rfl) rfl #[.slice Ao33 t324.length co33] rfl mp_ ?_; (with_reducible refine (lockgatekit_SpoilBytes.calls kj12 (fun k_ => some k_ = (.slice Ao33 t324.length co33 : Value).ownBlock) (.slice Ao33 t324.length co33) t324 t341 w _ ?side1 ?side2 A27.out).mono ?_); (case side1 => repeat (first | (with_reducible first | exact HB.out | apply lA_ | apply lN_ | apply lD_) | exact HB.out)); (case side2 => exact Kd.R_tight rfl HO_4.out); rintro e w34 ⟨rfl, hy0, hb, hkp⟩; refine ⟨_, rfl, ?_⟩; have n0_ := Aside0.mk (Kd.R_mono (ok' := fun k_ => True) (Kd.R_keptB ((Kd.R_apart' HO_3.out (Kd.R_typed HO_4.out) (by decide))) hkp (fun k_ hk_ hs_ => (hk_.2) hs_)) (fun k_ hk_ => trivial)); have n1_ := Aside0.mk (Kd.R_reok rfl hy0 (fun k_ e_ => HO_4.out.1 k_ e_)); have n2_ := Aside0.mk (Kd.R_mono (ok' := fun k_ => some k_ ≠ (.slice Ao33 t324.length co33 : Value).ownBlock ∧ some k_ ≠ (v338 : Value).ownBlock) (Kd.R_keptB (HO_6.out) hkp (fun k_ hk_ hs_ => (hk_.1) hs_)) (fun k_ hk_ => ⟨hk_.1.1, hk_.1.2⟩)); have n3_ := Aside0.mk (Kd.R_mono (ok' := fun k_ => some k_ ≠ (.slice Ao33 t324.length co33 : Value).ownBlock ∧ some k_ ≠ (v334 : Value).ownBlock) (Kd.R_keptB (HO_8.out) hkp (fun k_ hk_ hs_ => (hk_.1) hs_)) (fun k_ hk_ => ⟨hk_.1.1, hk_.1.2⟩)); have n4_ := Aside0.mk (hb); clear HO_3; clear HO_4; clear HO_6; clear HO_8; clear HB; have HO_3 := n0_; have HO_4 := n1_; have HO_6 := n2_; have HO_8 := n3_; have HB := n4_; clear n0_ n1_ n2_ n3_ n4_; (try clear hb); (try clear hkp); (try clear hy0); obtain ⟨Ao35, co35, eo35⟩ := Kd.R_slice HO_6.out; subst eo35; obtain ⟨Ao36, co36, eo36⟩ := Kd.R_slice HO_8.out; subst eo36) | ((with_reducible refine gate_callee (f := 15) rfl ?_); refine goesL_ (some 55) rfl rfl Try.func15 (by kernel_rfl) rfl #[.slice Ao35 t332.length co35, .slice Ao36 t336.length co36] rfl mp_ ?_; (with_reducible refine (lockgatekit_SameBytes.calls kj12 _ _ t332 _ _ t336 true _ ?side1 ?side2 ?side3 ?side4 A28.out).mono ?_); (case side1 => exact ca_ ((Kd.R_reads' HO_6.out).2.2)); (case side2 => exact (Kd.R_reads' HO_6.out).2.1); (case side3 => exact ca_ ((Kd.R_reads' HO_8.out).2.2)); (case side4 => exact (Kd.R_reads' HO_8.out).2.1); rintro e w' ⟨rfl, ⟨nd, rfl⟩⟩; refine ⟨_, rfl, ?_⟩) | (go_at_call 17; (with_reducible refine (lockgatekit_KeptInsns.calls kj12 _ _ t317 _ _ l0 true _ ?side1 ?side2 ?side3 ?side4 A30.out).mono ?_); (case side1 => exact ca_ ((Kd.R_reads' HO_3.out).2.2)); (case side2 => exact (Kd.R_reads' HO_3.out).2.1); (case side3 => exact ca_ (Kd.C_below HR0.out bz_)); (case side4 => exact HC0.out); rintro e w37 ⟨rfl, hb⟩; replace HO_3 := Aside0.mk (Kd.R_below (ra_ HO_3.out) hb); replace HO_4 := Aside0.mk (Kd.R_below (ra_ HO_4.out) hb); replace HO_6 := Aside0.mk (Kd.R_below (ra_ HO_6.out) hb); replace HO_8 := Aside0.mk (Kd.R_below (ra_ HO_8.out) hb); replace HB := bl_ hb; (try clear hb); (try clear hk); ) | (go_at_call 11; (with_reducible refine (lockgatelaw02_works.calls kj12  t344 _ A32.out).mono ?_); rintro e w38 ⟨rfl, hb⟩; replace HO_3 := Aside0.mk (Kd.R_below (ra_ HO_3.out) hb); replace HO_4 := Aside0.mk (Kd.R_below (ra_ HO_4.out) hb); replace HO_6 := Aside0.mk (Kd.R_below (ra_ HO_6.out) hb); replace HO_8 := Aside0.mk (Kd.R_below (ra_ HO_8.out) hb); replace HB := bl_ hb; (try clear hb); (try clear hk); ))
    go_ret
    exact ⟨vv_, bz_⟩
   replace c31 := Bool.eq_false_iff.mpr c31
   subst c31
   have H1 := if0_ H
   clear H
   have H := H1
   clear H1
   exact absurd ((Option.some.inj H).trans HRT.out) (by decide)
end Go.Proofs.Yticijjonimiooaa.PA
