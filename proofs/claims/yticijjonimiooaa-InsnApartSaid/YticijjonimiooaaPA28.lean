-- PRINTED by print.py (a twelfth state) out of the translation. Not trusted: Lean checks it.
import Derived.Test.YticijjonimiooaaWGuard
import Derived.Test.YticijjonimiooaaPA0
import Derived.Test.YticijjonimiooaaSq
import Derived.Test.YticijjonimiooaaPA7
import Derived.Test.YticijjonimiooaaPA11
import Derived.Test.YticijjonimiooaaPA24
namespace Go.Proofs.Yticijjonimiooaa.PA
open Go.RowKit Go.Proofs.YticijjonimiooaaW.PrintWords Go.Proofs.YticijjonimiooaaW.PrintLast Go.Proofs.YticijjonimiooaaW.PrintMore
attribute [local go_sem] max2_int min2_int max_two min_two max_three min_three max_four min_four   -- for this text's walks alone
set_option linter.unusedVariables false
set_option linter.unusedSimpArgs false

/-! ### lockgatelaw02_InsnApart: function 7 -/
mutual
def lockgatelaw02_InsnApart.j0 : Nat → List (S40) → List (S40) → Bool → Option (Bool)
 | 0, _, _, _ => none
 | k + 1, x0, x1, x20 => if x20 = true then ((lockgatelaw02_works.f k).bind fun t453 => (some t453)) else ((insn_Put.f k x0).bind fun bt454 => ((insn_Put.f k x1).bind fun bt458 => (if bt454.2 = 0 then (lockgatelaw02_InsnApart.j1 k x0 x1 bt454.1 bt458.1 (bt458.2 != 0)) else (lockgatelaw02_InsnApart.j1 k x0 x1 bt454.1 bt458.1 true))))
def lockgatelaw02_InsnApart.j1 : Nat → List (S40) → List (S40) → List Int → List Int → Bool → Option (Bool)
 | 0, _, _, _, _, _ => none
 | k + 1, x0, x1, x5, x7, x37 => if x37 = true then ((lockgatelaw02_works.f k).bind fun t462 => (some t462)) else ((lockgatekit_CopyInsns.f k x0).bind fun t463 => (lockgatelaw02_InsnApart.l0 k x0 x1 x5 x7 t463 0))
def lockgatelaw02_InsnApart.l0 : Nat → List (S40) → List (S40) → List Int → List Int → List (S40) → Int → Option (Bool)
 | 0, _, _, _, _, _, _ => none
 | k + 1, x0, x1, x5, x7, x9, x10 => if x10 < (x1.length : Int) then (if 0 ≤ x10 then (if x9.length < 3518437208883 then (lockgatelaw02_InsnApart.l0 k x0 x1 x5 x7 (x9 ++ [(⟨(rd_T40 x1 x10).f0, (rd_T40 x1 x10).f1, (rd_T40 x1 x10).f2, (rd_T40 x1 x10).f3, (rd_T40 x1 x10).f4⟩ : S40)]) (wrap64 (x10 + 1))) else (none)) else (none)) else ((insn_Put.f k x9).bind fun bt470 => (if bt470.2 = 0 then (if (bt470.1.length : Int) = (wrap64 ((x5.length : Int) + (x7.length : Int))) then (if 0 ≤ (x5.length : Int) then (if (x5.length : Int) ≤ (bt470.1.length : Int) then ((lockgatekit_SameBytes.f k (bt470.1.take ((x5.length : Int) : Int).toNat) x5).bind fun t478 => (if t478 = true then ((lockgatekit_SameBytes.f k (bt470.1.drop ((x5.length : Int) : Int).toNat) x7).bind fun t483 => (lockgatelaw02_InsnApart.j3 k x0 x1 x5 x7 (!t483))) else (lockgatelaw02_InsnApart.j3 k x0 x1 x5 x7 true))) else (none)) else (none)) else (lockgatelaw02_InsnApart.j3 k x0 x1 x5 x7 true)) else (lockgatelaw02_InsnApart.j3 k x0 x1 x5 x7 true)))
def lockgatelaw02_InsnApart.j3 : Nat → List (S40) → List (S40) → List Int → List Int → Bool → Option (Bool)
 | 0, _, _, _, _, _ => none
 | k + 1, x0, x1, x5, x7, x88 => if x88 = true then (some false) else ((lockgatekit_SameBytes.f k x5 x7).bind fun t484 => ((lockgatekit_SameInsns.f k x0 x1).bind fun t485 => (if (t484 == t485) = true then ((lockgatelaw02_works.f k).bind fun t486 => (some t486)) else (some false))))
end
def lockgatelaw02_InsnApart.f (k : Nat) (l0 : List (S40)) (l1 : List (S40)) : Option (Bool) := if (l0.length : Int) > 100 then (lockgatelaw02_InsnApart.j0 k l0 l1 true) else (lockgatelaw02_InsnApart.j0 k l0 l1 (decide ((l1.length : Int) > 100)))
theorem lockgatelaw02_InsnApart.mono_l : ∀ k, (∀ y0 y1 y2, LeO (lockgatelaw02_InsnApart.j0 k y0 y1 y2) (lockgatelaw02_InsnApart.j0 (k + 1) y0 y1 y2)) ∧ (∀ y0 y1 y2 y3 y4, LeO (lockgatelaw02_InsnApart.j1 k y0 y1 y2 y3 y4) (lockgatelaw02_InsnApart.j1 (k + 1) y0 y1 y2 y3 y4)) ∧ (∀ y0 y1 y2 y3 y4 y5, LeO (lockgatelaw02_InsnApart.l0 k y0 y1 y2 y3 y4 y5) (lockgatelaw02_InsnApart.l0 (k + 1) y0 y1 y2 y3 y4 y5)) ∧ (∀ y0 y1 y2 y3 y4, LeO (lockgatelaw02_InsnApart.j3 k y0 y1 y2 y3 y4) (lockgatelaw02_InsnApart.j3 (k + 1) y0 y1 y2 y3 y4))
 | 0 => ⟨fun _ _ _ r h => by simp [lockgatelaw02_InsnApart.j0] at h, fun _ _ _ _ _ r h => by simp [lockgatelaw02_InsnApart.j1] at h, fun _ _ _ _ _ _ r h => by simp [lockgatelaw02_InsnApart.l0] at h, fun _ _ _ _ _ r h => by simp [lockgatelaw02_InsnApart.j3] at h⟩
 | k + 1 => by
  obtain ⟨ih0, ih1, ih2, ih3⟩ := lockgatelaw02_InsnApart.mono_l k
  refine ⟨?_, ?_, ?_, ?_⟩
  ·intro y0 y1 y2
   unfold lockgatelaw02_InsnApart.j0
   repeat' first
   | (with_reducible exact ih0 _ _ _)
   | (with_reducible exact ih1 _ _ _ _ _)
   | (with_reducible exact ih2 _ _ _ _ _ _)
   | (with_reducible exact ih3 _ _ _ _ _)
   | (with_reducible exact insn_Put.mono _ _)
   | (with_reducible exact lockgatekit_CopyInsns.mono _ _)
   | (with_reducible exact lockgatekit_SameBytes.mono _ _ _)
   | (with_reducible exact lockgatekit_SameInsns.mono _ _ _)
   | (with_reducible exact lockgatelaw02_works.mono _)
   | (with_reducible exact LeO.refl _)
   | (with_reducible exact LeO.none _)
   | (with_reducible refine LeO.ite ?_ ?_)
   | (with_reducible refine LeO.bind ?_ (fun _ => ?_))
   | exact ih0 _ _ _
   | exact ih1 _ _ _ _ _
   | exact ih2 _ _ _ _ _ _
   | exact ih3 _ _ _ _ _
   | exact insn_Put.mono _ _
   | exact lockgatekit_CopyInsns.mono _ _
   | exact lockgatekit_SameBytes.mono _ _ _
   | exact lockgatekit_SameInsns.mono _ _ _
   | exact lockgatelaw02_works.mono _
   | exact LeO.none _
   | refine LeO.ite ?_ ?_
   | refine LeO.bind ?_ (fun _ => ?_)
  ·intro y0 y1 y2 y3 y4
   unfold lockgatelaw02_InsnApart.j1
   repeat' first
   | (with_reducible exact ih0 _ _ _)
   | (with_reducible exact ih1 _ _ _ _ _)
   | (with_reducible exact ih2 _ _ _ _ _ _)
   | (with_reducible exact ih3 _ _ _ _ _)
   | (with_reducible exact insn_Put.mono _ _)
   | (with_reducible exact lockgatekit_CopyInsns.mono _ _)
   | (with_reducible exact lockgatekit_SameBytes.mono _ _ _)
   | (with_reducible exact lockgatekit_SameInsns.mono _ _ _)
   | (with_reducible exact lockgatelaw02_works.mono _)
   | (with_reducible exact LeO.refl _)
   | (with_reducible exact LeO.none _)
   | (with_reducible refine LeO.ite ?_ ?_)
   | (with_reducible refine LeO.bind ?_ (fun _ => ?_))
   | exact ih0 _ _ _
   | exact ih1 _ _ _ _ _
   | exact ih2 _ _ _ _ _ _
   | exact ih3 _ _ _ _ _
   | exact insn_Put.mono _ _
   | exact lockgatekit_CopyInsns.mono _ _
   | exact lockgatekit_SameBytes.mono _ _ _
   | exact lockgatekit_SameInsns.mono _ _ _
   | exact lockgatelaw02_works.mono _
   | exact LeO.none _
   | refine LeO.ite ?_ ?_
   | refine LeO.bind ?_ (fun _ => ?_)
  ·intro y0 y1 y2 y3 y4 y5
   unfold lockgatelaw02_InsnApart.l0
   repeat' first
   | (with_reducible exact ih0 _ _ _)
   | (with_reducible exact ih1 _ _ _ _ _)
   | (with_reducible exact ih2 _ _ _ _ _ _)
   | (with_reducible exact ih3 _ _ _ _ _)
   | (with_reducible exact insn_Put.mono _ _)
   | (with_reducible exact lockgatekit_CopyInsns.mono _ _)
   | (with_reducible exact lockgatekit_SameBytes.mono _ _ _)
   | (with_reducible exact lockgatekit_SameInsns.mono _ _ _)
   | (with_reducible exact lockgatelaw02_works.mono _)
   | (with_reducible exact LeO.refl _)
   | (with_reducible exact LeO.none _)
   | (with_reducible refine LeO.ite ?_ ?_)
   | (with_reducible refine LeO.bind ?_ (fun _ => ?_))
   | exact ih0 _ _ _
   | exact ih1 _ _ _ _ _
   | exact ih2 _ _ _ _ _ _
   | exact ih3 _ _ _ _ _
   | exact insn_Put.mono _ _
   | exact lockgatekit_CopyInsns.mono _ _
   | exact lockgatekit_SameBytes.mono _ _ _
   | exact lockgatekit_SameInsns.mono _ _ _
   | exact lockgatelaw02_works.mono _
   | exact LeO.none _
   | refine LeO.ite ?_ ?_
   | refine LeO.bind ?_ (fun _ => ?_)
  ·intro y0 y1 y2 y3 y4
   unfold lockgatelaw02_InsnApart.j3
   repeat' first
   | (with_reducible exact ih0 _ _ _)
   | (with_reducible exact ih1 _ _ _ _ _)
   | (with_reducible exact ih2 _ _ _ _ _ _)
   | (with_reducible exact ih3 _ _ _ _ _)
   | (with_reducible exact insn_Put.mono _ _)
   | (with_reducible exact lockgatekit_CopyInsns.mono _ _)
   | (with_reducible exact lockgatekit_SameBytes.mono _ _ _)
   | (with_reducible exact lockgatekit_SameInsns.mono _ _ _)
   | (with_reducible exact lockgatelaw02_works.mono _)
   | (with_reducible exact LeO.refl _)
   | (with_reducible exact LeO.none _)
   | (with_reducible refine LeO.ite ?_ ?_)
   | (with_reducible refine LeO.bind ?_ (fun _ => ?_))
   | exact ih0 _ _ _
   | exact ih1 _ _ _ _ _
   | exact ih2 _ _ _ _ _ _
   | exact ih3 _ _ _ _ _
   | exact insn_Put.mono _ _
   | exact lockgatekit_CopyInsns.mono _ _
   | exact lockgatekit_SameBytes.mono _ _ _
   | exact lockgatekit_SameInsns.mono _ _ _
   | exact lockgatelaw02_works.mono _
   | exact LeO.none _
   | refine LeO.ite ?_ ?_
   | refine LeO.bind ?_ (fun _ => ?_)
theorem lockgatelaw02_InsnApart.mono : ∀ a0 a1 k, LeO (lockgatelaw02_InsnApart.f k a0 a1) (lockgatelaw02_InsnApart.f (k + 1) a0 a1) := by
 intro a0 a1 k
 obtain ⟨ih0, ih1, ih2, ih3⟩ := lockgatelaw02_InsnApart.mono_l k
 unfold lockgatelaw02_InsnApart.f
 repeat' first
  | (with_reducible exact ih0 _ _ _)
  | (with_reducible exact ih1 _ _ _ _ _)
  | (with_reducible exact ih2 _ _ _ _ _ _)
  | (with_reducible exact ih3 _ _ _ _ _)
  | (with_reducible exact insn_Put.mono _ _)
  | (with_reducible exact lockgatekit_CopyInsns.mono _ _)
  | (with_reducible exact lockgatekit_SameBytes.mono _ _ _)
  | (with_reducible exact lockgatekit_SameInsns.mono _ _ _)
  | (with_reducible exact lockgatelaw02_works.mono _)
  | (with_reducible exact LeO.refl _)
  | (with_reducible exact LeO.none _)
  | (with_reducible refine LeO.ite ?_ ?_)
  | (with_reducible refine LeO.bind ?_ (fun _ => ?_))
  | exact ih0 _ _ _
  | exact ih1 _ _ _ _ _
  | exact ih2 _ _ _ _ _ _
  | exact ih3 _ _ _ _ _
  | exact insn_Put.mono _ _
  | exact lockgatekit_CopyInsns.mono _ _
  | exact lockgatekit_SameBytes.mono _ _ _
  | exact lockgatekit_SameInsns.mono _ _ _
  | exact lockgatelaw02_works.mono _
  | exact LeO.none _
  | refine LeO.ite ?_ ?_
  | refine LeO.bind ?_ (fun _ => ?_)
set_option maxHeartbeats 8000000 in
set_option maxRecDepth 100000 in
theorem lockgatelaw02_InsnApart.calls (k : Nat) (A0 : Option Addr) (c0 : Nat) (l0 : List (S40)) (A1 : Option Addr) (c1 : Nat) (l1 : List (S40)) (r : Bool) (w : World) (hr0 : Kd.C k40 w A0 l0.length l0) (hc0 : l0.length ≤ c0) (hr1 : Kd.C k40 w A1 l1.length l1) (hc1 : l1.length ≤ c1) (HRT : Aside0 (r = true)) (h : lockgatelaw02_InsnApart.f k l0 l1 = some r) :
 Calls Try.prog 7 #[.slice A0 l0.length c0, .slice A1 l1.length c1] w fun e w' => e = .returned (.bool r) ∧ Below w.heap.size w w' := by
 have hu40 := Try.underlying40
 have HR0 := Aside0.mk hr0
 have HC0 := Aside0.mk hc0
 clear hr0 hc0
 have HR1 := Aside0.mk hr1
 have HC1 := Aside0.mk hc1
 clear hr1 hc1
 have HB := Aside0.mk (Below.refl w.heap.size w)
 have H : (if (l0.length : Int) > 100 then (lockgatelaw02_InsnApart.j0 k l0 l1 true) else (lockgatelaw02_InsnApart.j0 k l0 l1 (decide ((l1.length : Int) > 100)))) = some r := h
 clear h
 have HC3 := Aside0.mk H
 clear H
 go_enter Try.func7, Try.ntmps7
 go_upto_region 1 with (fail)
 go_cut [20] (fun v20 wc => ∃ (kq : Nat) (x20_2 : Bool), v20 = .bool x20_2 ∧ Aside0 (lockgatelaw02_InsnApart.j0 kq l0 l1 x20_2 = some r) ∧ Aside0 (kq ≤ k) ∧ Aside0 (Below w.heap.size w wc))
 case first =>
  have H := HC3.out
  clear HC3
  by_cases c4 : (l0.length : Int) > 100
  ·rw [if_pos c4] at H
   have c4b0 : decide (100 < (l0.length : Int)) = true := decide_eq_true c4
   have c4b1 : decide (100 < l0.length) = true := decide_eq_true (by omega)
   clear c4
   (first | rw [c4b0] | (simp only [i64_w, i32_w]; rw [c4b0]) | skip)
   have H' := Aside0.mk H
   clear H
   go_wp2
   go_meet
   case rel => exact ⟨_, (true), (by first | rfl | (simp; done) | (simp [*]; done)), H', ⟨by first | omega | exact Nat.le_refl _⟩, ⟨bz_⟩⟩
  ·rw [if_neg c4] at H
   have c4b0 : decide (100 < (l0.length : Int)) = false := decide_eq_false c4
   have c4b1 : decide (100 < l0.length) = false := decide_eq_false (by omega)
   clear c4
   (first | rw [c4b0] | (simp only [i64_w, i32_w]; rw [c4b0]) | skip)
   have H' := Aside0.mk H
   clear H
   go_wp2
   go_meet
   case rel => exact ⟨_, (decide ((l1.length : Int) > 100)), (by first | rfl | (simp; done) | (simp [*]; done)), H', ⟨by first | omega | exact Nat.le_refl _⟩, ⟨bz_⟩⟩
 case rest =>
  clear HC3
  try clear c1
  try clear p2
  try clear c4
  try clear c4b0
  try clear c4b1
  obtain ⟨kq, x20_2, rfl, HA, HJ2, HB⟩ := hcut
  cases kq with
  | zero => exact absurd HA.out (by simp [lockgatelaw02_InsnApart.j0])
  | succ kj2 =>
   have H := HA.out
   clear HA
   simp only [lockgatelaw02_InsnApart.j0] at H
   by_cases c5 : x20_2 = true
   ·subst c5
    have H1 : ((lockgatelaw02_works.f kj2).bind fun t453 => (some t453)) = some r := by rw [if_pos rfl] at H; exact H
    clear H
    have H := H1
    clear H1
    replace H := Option.bind_eq_some_iff.mp H
    obtain ⟨t453, A60, H⟩ := H
    replace H : (some t453) = some r := H
    have A6 := Aside0.mk A60
    clear A60
    obtain rfl := Option.some.inj H
    go_wp2_with (first | ((with_reducible refine gate_callee (f := 11) rfl ?_); refine goesL_ (some 21) rfl rfl Try.func11 (by kernel_rfl) rfl #[] rfl (by (try simp only [List.map_toArray, List.map_cons, List.map_nil]); first | done | rfl | (simp only [List.length_drop, List.length_take]; rfl)) ?_; (with_reducible refine (lockgatelaw02_works.calls kj2  t453 _ A6.out).mono ?_); rintro e w7 ⟨rfl, hb⟩; refine ⟨_, rfl, ?_⟩; replace HB := bl_ hb; (try clear hb); (try clear hb2); (try clear hk); (try clear hi)))
    go_ret
    exact ⟨vv_, bz_⟩
   ·replace c5 := Bool.eq_false_iff.mpr c5
    subst c5
    have H1 : ((insn_Put.f kj2 l0).bind fun bt454 => ((insn_Put.f kj2 l1).bind fun bt458 => (if bt454.2 = 0 then (lockgatelaw02_InsnApart.j1 kj2 l0 l1 bt454.1 bt458.1 (bt458.2 != 0)) else (lockgatelaw02_InsnApart.j1 kj2 l0 l1 bt454.1 bt458.1 true)))) = some r := by rw [if_neg (show ¬ (false = true) by decide)] at H; exact H
    clear H
    have H := H1
    clear H1
    replace H := Option.bind_eq_some_iff.mp H
    obtain ⟨⟨t454, t455⟩, A80, H⟩ := H
    replace H : ((insn_Put.f kj2 l1).bind fun bt458 => (if t455 = 0 then (lockgatelaw02_InsnApart.j1 kj2 l0 l1 t454 bt458.1 (bt458.2 != 0)) else (lockgatelaw02_InsnApart.j1 kj2 l0 l1 t454 bt458.1 true))) = some r := H
    have A8 := Aside0.mk A80
    clear A80
    replace H := Option.bind_eq_some_iff.mp H
    obtain ⟨⟨t458, t459⟩, A90, H⟩ := H
    replace H : (if t455 = 0 then (lockgatelaw02_InsnApart.j1 kj2 l0 l1 t454 t458 (t459 != 0)) else (lockgatelaw02_InsnApart.j1 kj2 l0 l1 t454 t458 true)) = some r := H
    have A9 := Aside0.mk A90
    clear A90
    have HC10 := Aside0.mk H
    clear H
    go_upto_region 5 with (first | ((with_reducible refine gate_callee (f := 13) rfl ?_); refine goesL_ (some 24) rfl rfl Try.func13 (by kernel_rfl) rfl #[.slice A0 l0.length c0] rfl (by (try simp only [List.map_toArray, List.map_cons, List.map_nil]); first | done | rfl | (simp only [List.length_drop, List.length_take]; rfl)) ?_; (with_reducible refine (insn_Put.calls kj2 _ _ l0 t454 t455 _ ?side1 ?side2 A8.out).mono ?_); (case side1 => repeat (first | exact (Kd.C_below HR0.out HB.out) | (with_reducible refine Kd.C_alloc ?_ _) | (with_reducible refine Kd.C_drewN ?_ _) | (with_reducible refine Kd.C_drew ?_))); (case side2 => exact HC0.out); rintro e w11 ⟨v456, rfl, ho0, hb⟩; refine ⟨_, rfl, ?_⟩; have HO457 := Aside0.mk (Kd.R_lower ho0 (below_size bz_)); replace HB := bl_ hb; (try clear hb); (try clear hb2); (try clear hk); (try clear hi); (try clear ho0)) | ((with_reducible refine gate_callee (f := 13) rfl ?_); refine goesL_ (some 29) rfl rfl Try.func13 (by kernel_rfl) rfl #[.slice A1 l1.length c1] rfl (by (try simp only [List.map_toArray, List.map_cons, List.map_nil]); first | done | rfl | (simp only [List.length_drop, List.length_take]; rfl)) ?_; (with_reducible refine (insn_Put.calls kj2 _ _ l1 t458 t459 _ ?side1 ?side2 A9.out).mono ?_); (case side1 => repeat (first | exact (Kd.C_below HR1.out HB.out) | (with_reducible refine Kd.C_alloc ?_ _) | (with_reducible refine Kd.C_drewN ?_ _) | (with_reducible refine Kd.C_drew ?_))); (case side2 => exact HC1.out); rintro e w12 ⟨v460, rfl, ho0, hb⟩; refine ⟨_, rfl, ?_⟩; have n0_ := Aside0.mk (Kd.R_elder' (by (with_reducible repeat (first | apply Kd.R_alloc | apply Kd.R_drewN | apply Kd.R_drew)); exact HO457.out) (Kd.R_base ho0) hb); have n1_ := Aside0.mk (Kd.R_lower (Kd.R_new' ho0 (Kd.R_lt (by (with_reducible repeat (first | apply Kd.R_alloc | apply Kd.R_drewN | apply Kd.R_drew)); exact HO457.out))) (below_size bz_)); have n2_ := bl_ hb; clear HO457; clear HB; have HO457 := n0_; have HO461 := n1_; have HB := n2_; clear n0_ n1_ n2_; (try clear hb); (try clear hb2); (try clear hk); (try clear hi); (try clear ho0)))
    (try simp only [Act.put, s1_, s2_, s3_])
    go_cut [37] (fun v37 wc => ∃ (kq : Nat) (x37_9 : Bool), v37 = .bool x37_9 ∧ Aside0 (lockgatelaw02_InsnApart.j1 kq l0 l1 t454 t458 x37_9 = some r) ∧ Aside0 (kq ≤ kj2) ∧ Aside0 (Kd.R (Kd.int .u8) 5 wc w.heap.size (fun k_ => some k_ ≠ (v460 : Value).ownBlock) v456 t454) ∧ Aside0 (Kd.R (Kd.int .u8) 5 wc w.heap.size (fun k_ => some k_ ≠ (v456 : Value).ownBlock) v460 t458) ∧ Aside0 (Below w.heap.size w wc))
    case first =>
     have H := HC10.out
     clear HC10
     by_cases c13 : t455 = 0
     ·rw [if_pos c13] at H
      have c13b0 : (t455 == 0) = true := beq_iff_eq.mpr c13
      have c13b1 : (t455 != 0) = false := bne_eq_false_iff_eq.mpr c13
      clear c13
      (first | rw [c13b0] | (simp only [i64_w, i32_w]; rw [c13b0]) | skip)
      have H' := Aside0.mk H
      clear H
      go_wp2
      go_meet
      case rel => exact ⟨_, ((t459 != 0)), (by first | rfl | (simp; done) | (simp [*]; done)), H', ⟨by have := HJ2.out; first | omega | exact Nat.le_refl _⟩, ⟨by (with_reducible repeat (first | apply Kd.R_alloc | apply Kd.R_drewN | apply Kd.R_drew)); exact Kd.R_mono HO457.out (fun _ hk => hk.2)⟩, ⟨by (with_reducible repeat (first | apply Kd.R_alloc | apply Kd.R_drewN | apply Kd.R_drew)); exact Kd.R_mono HO461.out (fun _ hk => hk.2)⟩, ⟨bz_⟩⟩
     ·rw [if_neg c13] at H
      have c13b0 : (t455 == 0) = false := beq_eq_false_iff_ne.mpr c13
      have c13b1 : (t455 != 0) = true := bne_iff_ne.mpr c13
      (first | rw [c13b0] | (simp only [i64_w, i32_w]; rw [c13b0]) | skip)
      have H' := Aside0.mk H
      clear H
      go_wp2
      go_meet
      case rel => exact ⟨_, (true), (by first | rfl | (simp; done) | (simp [*]; done)), H', ⟨by have := HJ2.out; first | omega | exact Nat.le_refl _⟩, ⟨by (with_reducible repeat (first | apply Kd.R_alloc | apply Kd.R_drewN | apply Kd.R_drew)); exact Kd.R_mono HO457.out (fun _ hk => hk.2)⟩, ⟨by (with_reducible repeat (first | apply Kd.R_alloc | apply Kd.R_drewN | apply Kd.R_drew)); exact Kd.R_mono HO461.out (fun _ hk => hk.2)⟩, ⟨bz_⟩⟩
    case rest =>
     clear HC10
     try clear c1
     try clear p2
     try clear c4
     try clear c4b0
     try clear c4b1
     try clear c5
     try clear c7
     try clear c11
     try clear c13
     try clear c13b0
     try clear c13b1
     try clear p2
     obtain ⟨kq, x37_9, rfl, HA, HJ9, HO_5, HO_7, HB⟩ := hcut
     cases kq with
     | zero => exact absurd HA.out (by simp [lockgatelaw02_InsnApart.j1])
     | succ kj9 =>
      have H := HA.out
      clear HA
      simp only [lockgatelaw02_InsnApart.j1] at H
      by_cases c14 : x37_9 = true
      ·subst c14
       have H1 : ((lockgatelaw02_works.f kj9).bind fun t462 => (some t462)) = some r := by rw [if_pos rfl] at H; exact H
       clear H
       have H := H1
       clear H1
       replace H := Option.bind_eq_some_iff.mp H
       obtain ⟨t462, A150, H⟩ := H
       replace H : (some t462) = some r := H
       have A15 := Aside0.mk A150
       clear A150
       obtain rfl := Option.some.inj H
       go_wp2_with (first | ((with_reducible refine gate_callee (f := 11) rfl ?_); refine goesL_ (some 38) rfl rfl Try.func11 (by kernel_rfl) rfl #[] rfl (by (try simp only [List.map_toArray, List.map_cons, List.map_nil]); first | done | rfl | (simp only [List.length_drop, List.length_take]; rfl)) ?_; (with_reducible refine (lockgatelaw02_works.calls kj9  t462 _ A15.out).mono ?_); rintro e w16 ⟨rfl, hb⟩; refine ⟨_, rfl, ?_⟩; replace HO_5 := Aside0.mk (Kd.R_below (by (with_reducible repeat (first | apply Kd.R_alloc | apply Kd.R_drewN | apply Kd.R_drew)); exact HO_5.out) hb); replace HO_7 := Aside0.mk (Kd.R_below (by (with_reducible repeat (first | apply Kd.R_alloc | apply Kd.R_drewN | apply Kd.R_drew)); exact HO_7.out) hb); replace HB := bl_ hb; (try clear hb); (try clear hb2); (try clear hk); (try clear hi)))
       go_ret
       exact ⟨vv_, bz_⟩
      ·replace c14 := Bool.eq_false_iff.mpr c14
       subst c14
       have H1 : ((lockgatekit_CopyInsns.f kj9 l0).bind fun t463 => (lockgatelaw02_InsnApart.l0 kj9 l0 l1 t454 t458 t463 0)) = some r := by rw [if_neg (show ¬ (false = true) by decide)] at H; exact H
       clear H
       have H := H1
       clear H1
       replace H := Option.bind_eq_some_iff.mp H
       obtain ⟨t463, A170, H⟩ := H
       replace H : (lockgatelaw02_InsnApart.l0 kj9 l0 l1 t454 t458 t463 0) = some r := H
       have A17 := Aside0.mk A170
       clear A170
       have H' := Aside0.mk H
       clear H
       go_wp2_with (first | ((with_reducible refine gate_callee (f := 26) rfl ?_); refine goesL_ (some 40) rfl rfl Try.func26 (by kernel_rfl) rfl #[.slice A0 l0.length c0] rfl (by (try simp only [List.map_toArray, List.map_cons, List.map_nil]); first | done | rfl | (simp only [List.length_drop, List.length_take]; rfl)) ?_; (with_reducible refine (lockgatekit_CopyInsns.calls kj9 _ _ l0 t463 _ ?side1 ?side2 A17.out).mono ?_); (case side1 => repeat (first | exact (Kd.C_below HR0.out HB.out) | (with_reducible refine Kd.C_alloc ?_ _) | (with_reducible refine Kd.C_drewN ?_ _) | (with_reducible refine Kd.C_drew ?_))); (case side2 => exact HC0.out); rintro e w18 ⟨v464, rfl, ho0, hb⟩; refine ⟨_, rfl, ?_⟩; have HO465 := Aside0.mk (Kd.R_lower ho0 (below_size bz_)); replace HO_5 := Aside0.mk (Kd.R_below (by (with_reducible repeat (first | apply Kd.R_alloc | apply Kd.R_drewN | apply Kd.R_drew)); exact HO_5.out) hb); replace HO_7 := Aside0.mk (Kd.R_below (by (with_reducible repeat (first | apply Kd.R_alloc | apply Kd.R_drewN | apply Kd.R_drew)); exact HO_7.out) hb); replace HB := bl_ hb; (try clear hb); (try clear hb2); (try clear hk); (try clear hi); (try clear ho0)))
       go_loopg [9, 10] kj9 (fun kq v9 v10 w' => ∃ (x9_3 : List (S40)) (x10_3 : Int), v10 = .int .i64 x10_3 ∧ Aside0 (lockgatelaw02_InsnApart.l0 kq l0 l1 t454 t458 x9_3 x10_3 = some r) ∧ Aside0 (kq ≤ kj9) ∧ Aside0 (Kd.R (Kd.int .u8) 5 w' w.heap.size (fun k_ => some k_ ≠ (v460 : Value).ownBlock) v456 t454) ∧ Aside0 (Kd.R (Kd.int .u8) 5 w' w.heap.size (fun k_ => some k_ ≠ (v456 : Value).ownBlock) v460 t458) ∧ Aside0 (Kd.R k40 40 w' w.heap.size (fun _ => True) v9 x9_3) ∧ Aside0 (Below w.heap.size w w'))
       case atStart => exact ⟨(t463), (0), (by first | rfl | (simp; done) | (simp [*]; done)), H', ⟨Nat.le_refl _⟩, ⟨by (with_reducible repeat (first | apply Kd.R_alloc | apply Kd.R_drewN | apply Kd.R_drew)); exact HO_5.out⟩, ⟨by (with_reducible repeat (first | apply Kd.R_alloc | apply Kd.R_drewN | apply Kd.R_drew)); exact HO_7.out⟩, ⟨by (with_reducible repeat (first | apply Kd.R_alloc | apply Kd.R_drewN | apply Kd.R_drew)); exact HO465.out⟩, ⟨bz_⟩⟩
       case round =>
        clear H'
        try clear c1
        try clear c2
        try clear p2
        try clear c4
        try clear c4b0
        try clear c4b1
        try clear c5
        try clear c7
        try clear c11
        try clear c13
        try clear c13b0
        try clear c13b1
        try clear c14
        try clear p2
        obtain ⟨x9_3, x10_3, rfl, HA, HK3, HO_5, HO_7, HO_9, HB⟩ := hrel
        cases gk with
        | zero => exact absurd HA.out (by simp [lockgatelaw02_InsnApart.l0])
        | succ k3 =>
         have H := HA.out
         clear HA
         simp only [lockgatelaw02_InsnApart.l0] at H
         by_cases c19 : x10_3 < (l1.length : Int)
         ·rw [if_pos c19] at H
          have c19b0 : decide (x10_3 < (l1.length : Int)) = true := decide_eq_true c19
          clear c19
          by_cases c20 : 0 ≤ x10_3
          ·rw [if_pos c20] at H
           have c20b0 : decide (0 ≤ x10_3) = true := decide_eq_true c20
           clear c20
           by_cases c21 : x9_3.length < 3518437208883
           ·rw [if_pos c21] at H
            have LMc21 := Aside0.mk c21
            clear c21
            obtain ⟨y467, hy467⟩ : ∃ y_ : List (S40), y_ = (x9_3 ++ [(⟨(rd_T40 l1 x10_3).f0, (rd_T40 l1 x10_3).f1, (rd_T40 l1 x10_3).f2, (rd_T40 l1 x10_3).f3, (rd_T40 l1 x10_3).f4⟩ : S40)]) := ⟨_, rfl⟩
            replace H : (lockgatelaw02_InsnApart.l0 k3 l0 l1 t454 t458 y467 (wrap64 (x10_3 + 1))) = some r := by first | (rw [hy467]; with_reducible exact H) | (have H2_ := (Option.bind_some _ _).symm.trans H; rw [hy467]; with_reducible exact H2_) | (have H2_ := (Option.bind_some _ _).symm.trans H; with_reducible exact H2_) | with_reducible exact H | (rw [hy467]; exact H) | exact H
            have Ny467 := Aside0.mk hy467
            clear hy467
            have H' := Aside0.mk H
            clear H
            have p466 : 0 ≤ (x10_3 : Int) := of_decide_eq_true (by first | (with_reducible assumption) | assumption)
            have q466 : x10_3 < (l1.length : Int) := of_decide_eq_true (by first | (with_reducible assumption) | assumption)
            obtain ⟨ad466, e466, hx466_0, hx466_1, hx466_2, hx466_3, hx466_4⟩ := at_T40 HR1.out x10_3 p466 q466
            cases e466
            replace hx466_0 := (HB.out.cell (World.block_lt_of_cell? w _ hx466_0)).trans hx466_0
            replace hx466_1 := (HB.out.cell (World.block_lt_of_cell? w _ hx466_1)).trans hx466_1
            replace hx466_2 := (HB.out.cell (World.block_lt_of_cell? w _ hx466_2)).trans hx466_2
            replace hx466_3 := (HB.out.cell (World.block_lt_of_cell? w _ hx466_3)).trans hx466_3
            replace hx466_4 := (HB.out.cell (World.block_lt_of_cell? w _ hx466_4)).trans hx466_4
            replace p466 := eq_true p466
            replace q466 := eq_true q466
            go_wp2_with (first | ((with_reducible refine gate_builtin (b := .append) (xs := #[.tmp 47, .tmp 52]) rfl ?_); (try (refine gate_guard (by rfl) ?_; dsimp only)); at_builtin; refine Kd.R_append k40 (w0 := w) w.heap.size rfl (.tmp 47) (.tmp 52) 22 40 (.agg #[(.int .i64 0), (.int .i64 0), (.int .i64 0), (.int .i64 0), (.int .i64 0)]) 40 rfl Try.underlying22 info40 rfl (by decide) (by omega) u9 x9_3 (⟨(rd_T40 l1 x10_3).f0, (rd_T40 l1 x10_3).f1, (rd_T40 l1 x10_3).f2, (rd_T40 l1 x10_3).f3, (rd_T40 l1 x10_3).f4⟩ : S40) [.int .i64 ((rd_T40 l1 x10_3).f0), .int .i64 ((rd_T40 l1 x10_3).f1), .int .i64 ((rd_T40 l1 x10_3).f2), .int .i64 ((rd_T40 l1 x10_3).f3), .int .i64 ((rd_T40 l1 x10_3).f4)] (fun _ => True) (fun _ => False) rfl rfl ?aP (fun _ hk => hk.elim) ?aF ?aO ?aB ?aS ?aL ?_; (case aP => exact k40_mkM _ _ _ (⟨(rd_T40 l1 x10_3).f0, (rd_T40 l1 x10_3).f1, (rd_T40 l1 x10_3).f2, (rd_T40 l1 x10_3).f3, (rd_T40 l1 x10_3).f4⟩ : S40)); (case aB => exact bz_); (case aF => exact (fun _ _ => trivial)); (case aO => exact (by (with_reducible repeat (first | apply Kd.R_alloc | apply Kd.R_drewN | apply Kd.R_drew)); exact HO_9.out)); (case aS => exact (below_size bz_)); (case aL => have := LMc21.out; omega); intro v468 w22 ho hb hg hat; rw [← Ny467.out] at ho; have n0_ := Aside0.mk (Kd.R_over' (by (with_reducible repeat (first | apply Kd.R_alloc | apply Kd.R_drewN | apply Kd.R_drew)); exact HO_5.out) (Kd.R_typed (by (with_reducible repeat (first | apply Kd.R_alloc | apply Kd.R_drewN | apply Kd.R_drew)); exact HO_9.out)) (by decide) hg); have n1_ := Aside0.mk (Kd.R_over' (by (with_reducible repeat (first | apply Kd.R_alloc | apply Kd.R_drewN | apply Kd.R_drew)); exact HO_7.out) (Kd.R_typed (by (with_reducible repeat (first | apply Kd.R_alloc | apply Kd.R_drewN | apply Kd.R_drew)); exact HO_9.out)) (by decide) hg); have n2_ := Aside0.mk (hb); have n3_ := Aside0.mk (ho); clear HO_5; clear HO_7; clear HB; clear HO_9; have HO_5 := n0_; have HO_7 := n1_; have HB := n2_; have HO469 := n3_; clear n0_ n1_ n2_ n3_; clear ho hb hg hat))
            go_roundg k3
            case measure => have := HJ2.out; have := HJ9.out; have := HK3.out; omega
            case rel => exact ⟨(y467), (wrap64 (x10_3 + 1)), (by first | rfl | (simp; done) | (simp [*]; done)), H', ⟨by have := HJ2.out; have := HJ9.out; have := HK3.out; omega⟩, ⟨by (with_reducible repeat (first | apply Kd.R_alloc | apply Kd.R_drewN | apply Kd.R_drew)); exact HO_5.out⟩, ⟨by (with_reducible repeat (first | apply Kd.R_alloc | apply Kd.R_drewN | apply Kd.R_drew)); exact HO_7.out⟩, ⟨by (with_reducible repeat (first | apply Kd.R_alloc | apply Kd.R_drewN | apply Kd.R_drew)); exact HO469.out⟩, ⟨bz_⟩⟩
           ·rw [if_neg c21] at H
            exact absurd H (by simp)
          ·rw [if_neg c20] at H
           exact absurd H (by simp)
         ·rw [if_neg c19] at H
          have c19b0 : decide (x10_3 < (l1.length : Int)) = false := decide_eq_false c19
          clear c19
          replace H := Option.bind_eq_some_iff.mp H
          obtain ⟨⟨t470, t471⟩, A230, H⟩ := H
          replace H : (if t471 = 0 then (if (t470.length : Int) = (wrap64 ((t454.length : Int) + (t458.length : Int))) then (if 0 ≤ (t454.length : Int) then (if (t454.length : Int) ≤ (t470.length : Int) then ((lockgatekit_SameBytes.f k3 (t470.take ((t454.length : Int) : Int).toNat) t454).bind fun t478 => (if t478 = true then ((lockgatekit_SameBytes.f k3 (t470.drop ((t454.length : Int) : Int).toNat) t458).bind fun t483 => (lockgatelaw02_InsnApart.j3 k3 l0 l1 t454 t458 (!t483))) else (lockgatelaw02_InsnApart.j3 k3 l0 l1 t454 t458 true))) else (none)) else (none)) else (lockgatelaw02_InsnApart.j3 k3 l0 l1 t454 t458 true)) else (lockgatelaw02_InsnApart.j3 k3 l0 l1 t454 t458 true)) = some r := H
          have A23 := Aside0.mk A230
          clear A230
          have HC24 := Aside0.mk H
          clear H
          obtain ⟨Ao25, co25, eo25⟩ := Kd.R_slice HO_9.out
          subst eo25
          go_upto_region 13 with (first | ((with_reducible refine gate_callee (f := 13) rfl ?_); refine goesL_ (some 56) rfl rfl Try.func13 (by kernel_rfl) rfl #[.slice Ao25 x9_3.length co25] rfl (by (try simp only [List.map_toArray, List.map_cons, List.map_nil]); first | done | rfl | (simp only [List.length_drop, List.length_take]; rfl)) ?_; (with_reducible refine (insn_Put.calls k3 _ _ x9_3 t470 t471 _ ?side1 ?side2 A23.out).mono ?_); (case side1 => repeat (first | exact (Kd.R_reads' HO_9.out).2.2 | (with_reducible refine Kd.C_alloc ?_ _) | (with_reducible refine Kd.C_drewN ?_ _) | (with_reducible refine Kd.C_drew ?_))); (case side2 => exact (Kd.R_reads' HO_9.out).2.1); rintro e w26 ⟨v472, rfl, ho0, hb⟩; refine ⟨_, rfl, ?_⟩; have n0_ := Aside0.mk (Kd.R_elder' (by (with_reducible repeat (first | apply Kd.R_alloc | apply Kd.R_drewN | apply Kd.R_drew)); exact HO_5.out) (Kd.R_base ho0) hb); have n1_ := Aside0.mk (Kd.R_elder' (by (with_reducible repeat (first | apply Kd.R_alloc | apply Kd.R_drewN | apply Kd.R_drew)); exact HO_7.out) (Kd.R_base ho0) hb); have n2_ := Aside0.mk (Kd.R_below (by (with_reducible repeat (first | apply Kd.R_alloc | apply Kd.R_drewN | apply Kd.R_drew)); exact HO_9.out) hb); have n3_ := Aside0.mk (Kd.R_lower (Kd.R_new' (Kd.R_new' ho0 (Kd.R_lt (by (with_reducible repeat (first | apply Kd.R_alloc | apply Kd.R_drewN | apply Kd.R_drew)); exact HO_5.out))) (Kd.R_lt (by (with_reducible repeat (first | apply Kd.R_alloc | apply Kd.R_drewN | apply Kd.R_drew)); exact HO_7.out))) (below_size bz_)); have n4_ := bl_ hb; clear HO_5; clear HO_7; clear HO_9; clear HB; have HO_5 := n0_; have HO_7 := n1_; have HO_9 := n2_; have HO473 := n3_; have HB := n4_; clear n0_ n1_ n2_ n3_ n4_; (try clear hb); (try clear hb2); (try clear hk); (try clear hi); (try clear ho0)))
          (try simp only [Act.put, s1_, s2_, s3_])
          go_cut [88] (fun v88 wc => ∃ (kq : Nat) (x88_23 : Bool), v88 = .bool x88_23 ∧ Aside0 (lockgatelaw02_InsnApart.j3 kq l0 l1 t454 t458 x88_23 = some r) ∧ Aside0 (kq ≤ k3) ∧ Aside0 (Kd.R (Kd.int .u8) 5 wc w.heap.size (fun k_ => some k_ ≠ (v460 : Value).ownBlock) v456 t454) ∧ Aside0 (Kd.R (Kd.int .u8) 5 wc w.heap.size (fun k_ => some k_ ≠ (v456 : Value).ownBlock) v460 t458) ∧ Aside0 (Below w.heap.size w wc))
          case first =>
           have H := HC24.out
           clear HC24
           by_cases c27 : t471 = 0
           ·rw [if_pos c27] at H
            have c27b0 : (t471 == 0) = true := beq_iff_eq.mpr c27
            have c27b1 : (t471 != 0) = false := bne_eq_false_iff_eq.mpr c27
            clear c27
            (first | rw [c27b0] | (simp only [i64_w, i32_w]; rw [c27b0]) | skip)
            by_cases c28 : (t470.length : Int) = (wrap64 ((t454.length : Int) + (t458.length : Int)))
            ·rw [if_pos c28] at H
             have c28b0 : ((t470.length : Int) == (wrap64 ((t454.length : Int) + (t458.length : Int)))) = true := beq_iff_eq.mpr c28
             have c28b1 : ((t470.length : Int) != (wrap64 ((t454.length : Int) + (t458.length : Int)))) = false := bne_eq_false_iff_eq.mpr c28
             clear c28
             by_cases c29 : 0 ≤ (t454.length : Int)
             ·rw [if_pos c29] at H
              have c29b0 := eq_true c29
              have c29b1 : decide (0 ≤ (t454.length : Int)) = true := decide_eq_true c29
              clear c29
              by_cases c30 : (t454.length : Int) ≤ (t470.length : Int)
              ·rw [if_pos c30] at H
               have c30b0 := eq_true c30
               have c30b1 : decide ((t454.length : Int) ≤ (t470.length : Int)) = true := decide_eq_true c30
               clear c30
               obtain ⟨y474, hy474⟩ : ∃ y_ : List Int, y_ = (t470.take ((t454.length : Int) : Int).toNat) := ⟨_, rfl⟩
               replace H : ((lockgatekit_SameBytes.f k3 y474 t454).bind fun t478 => (if t478 = true then ((lockgatekit_SameBytes.f k3 (t470.drop ((t454.length : Int) : Int).toNat) t458).bind fun t483 => (lockgatelaw02_InsnApart.j3 k3 l0 l1 t454 t458 (!t483))) else (lockgatelaw02_InsnApart.j3 k3 l0 l1 t454 t458 true))) = some r := by first | (rw [hy474]; with_reducible exact H) | (have H2_ := (Option.bind_some _ _).symm.trans H; rw [hy474]; with_reducible exact H2_) | (have H2_ := (Option.bind_some _ _).symm.trans H; with_reducible exact H2_) | with_reducible exact H | (rw [hy474]; exact H) | exact H
               have Ny474 := Aside0.mk hy474
               clear hy474
               replace H := Option.bind_eq_some_iff.mp H
               obtain ⟨t478, A310, H⟩ := H
               replace H : (if t478 = true then ((lockgatekit_SameBytes.f k3 (t470.drop ((t454.length : Int) : Int).toNat) t458).bind fun t483 => (lockgatelaw02_InsnApart.j3 k3 l0 l1 t454 t458 (!t483))) else (lockgatelaw02_InsnApart.j3 k3 l0 l1 t454 t458 true)) = some r := H
               have A31 := Aside0.mk A310
               clear A310
               by_cases c32 : t478 = true
               ·subst c32
                have H1 : ((lockgatekit_SameBytes.f k3 (t470.drop ((t454.length : Int) : Int).toNat) t458).bind fun t483 => (lockgatelaw02_InsnApart.j3 k3 l0 l1 t454 t458 (!t483))) = some r := by rw [if_pos rfl] at H; exact H
                clear H
                have H := H1
                clear H1
                have c33b0 := eq_true (of_decide_eq_true (by first | (with_reducible assumption) | assumption) : 0 ≤ (t454.length : Int))
                have c34b0 := eq_true (of_decide_eq_true (by first | (with_reducible assumption) | assumption) : (t454.length : Int) ≤ (t470.length : Int))
                obtain ⟨y479, hy479⟩ : ∃ y_ : List Int, y_ = (t470.drop ((t454.length : Int) : Int).toNat) := ⟨_, rfl⟩
                replace H : ((lockgatekit_SameBytes.f k3 y479 t458).bind fun t483 => (lockgatelaw02_InsnApart.j3 k3 l0 l1 t454 t458 (!t483))) = some r := by first | (rw [hy479]; with_reducible exact H) | (have H2_ := (Option.bind_some _ _).symm.trans H; rw [hy479]; with_reducible exact H2_) | (have H2_ := (Option.bind_some _ _).symm.trans H; with_reducible exact H2_) | with_reducible exact H | (rw [hy479]; exact H) | exact H
                have Ny479 := Aside0.mk hy479
                clear hy479
                replace H := Option.bind_eq_some_iff.mp H
                obtain ⟨t483, A350, H⟩ := H
                replace H : (lockgatelaw02_InsnApart.j3 k3 l0 l1 t454 t458 (!t483)) = some r := H
                have A35 := Aside0.mk A350
                clear A350
                have H' := Aside0.mk H
                clear H
                obtain ⟨Ao36, co36, eo36⟩ := Kd.R_slice HO473.out
                subst eo36
                obtain ⟨Ao37, co37, eo37⟩ := Kd.R_slice HO_5.out
                subst eo37
                obtain ⟨Ao38, co38, eo38⟩ := Kd.R_slice HO_7.out
                subst eo38
                have q39 : ((t454.length : Int) : Int) ≤ ((t470.length : Int) : Int) := of_decide_eq_true (by first | (with_reducible assumption) | assumption)
                obtain ⟨i039, hi039, _, hsz39, _⟩ := info_parts info5
                have hroom39 : t470.length ≤ co36 := (Kd.R_reads' HO473.out).2.1
                have hC39 : Kd.C (Kd.int .u8) _ Ao36 t470.length t470 := (Kd.R_reads' HO473.out).2.2
                have hcut39 := cut_to (P := Try.prog) 25 5 .i64 Try.underlying25 hi039 Ao36 t470.length co36 (t454.length : Int) (of_decide_eq_true (by first | (with_reducible assumption) | assumption)) q39 hroom39
                have hr39 := Kd.C_take (m := ((t454.length : Int) : Int).toNat) hC39 (by omega)
                have hy39 : y474.length = ((t454.length : Int) : Int).toNat := (by rw [Ny474.out, List.length_take]; omega)
                rw [← Ny474.out] at hr39
                rw [← hy39] at hcut39
                have HR477 := Aside0.mk hr39
                have HC477 := Aside0.mk (show y474.length ≤ co36 from by omega)
                clear hr39 hC39 hroom39 hi039 hsz39
                have KY39 := Aside0.mk hy39
                clear hy39
                have KL39 := Aside0.mk (show ((t454.length : Int) : Int).toNat ≤ t470.length from by omega)
                replace q39 := eq_true q39
                go_wp2_with (first | (go_at_call 15; (with_reducible refine (lockgatekit_SameBytes.calls k3 _ _ y474 _ _ t454 true _ ?side1 ?side2 ?side3 ?side4 A31.out).mono ?_); (case side1 => repeat (first | exact (by repeat (first | (with_reducible exact HR477.out) | (with_reducible refine Kd.C_alloc ?_ _) | (with_reducible refine Kd.C_drewN ?_ _) | (with_reducible refine Kd.C_drew ?_) | exact HR477.out)) | (with_reducible refine Kd.C_alloc ?_ _) | (with_reducible refine Kd.C_drewN ?_ _) | (with_reducible refine Kd.C_drew ?_))); (case side2 => exact HC477.out); (case side3 => repeat (first | exact (Kd.R_reads' HO_5.out).2.2 | (with_reducible refine Kd.C_alloc ?_ _) | (with_reducible refine Kd.C_drewN ?_ _) | (with_reducible refine Kd.C_drew ?_))); (case side4 => exact (Kd.R_reads' HO_5.out).2.1); rintro e w' ⟨rfl, ⟨nd, rfl⟩⟩; have q40 : ((t454.length : Int) : Int) ≤ ((t470.length : Int) : Int) := of_decide_eq_true (by first | (with_reducible assumption) | assumption); obtain ⟨i040, hi040, _, hsz40, _⟩ := info_parts info5; have hroom40 : t470.length ≤ co36 := (Kd.R_reads' HO473.out).2.1; have hC40 : Kd.C (Kd.int .u8) _ Ao36 t470.length t470 := (Kd.R_reads' HO473.out).2.2; have q040 : (0 : Int) ≤ ((t454.length : Int) : Int) := of_decide_eq_true (by first | (with_reducible assumption) | assumption); have hcut40 := cut_from (P := Try.prog) 25 5 .i64 Try.underlying25 hi040 1 hsz40 Ao36 t470.length co36 (t454.length : Int) q040 q40; have hr40 := Kd.C_drop (m := ((t454.length : Int) : Int).toNat) (c := co36) hC40 (by omega) hroom40; obtain ⟨A40, hA40⟩ : ∃ A1, A1 = (if co36 = ((t454.length : Int) : Int).toNat then Ao36 else (Ao36 : Option Addr).map (·.add (((t454.length : Int) : Int).toNat * 1))) := ⟨_, rfl⟩; obtain ⟨c40, hc40⟩ : ∃ c1, c1 = co36 - ((t454.length : Int) : Int).toNat := ⟨_, rfl⟩; have hy40 : y479.length = t470.length - ((t454.length : Int) : Int).toNat := (by rw [Ny479.out, List.length_drop] <;> omega); rw [show (t470).drop ((t454.length : Int) : Int).toNat = y479 from Ny479.out.symm] at hr40; replace hr40 : Kd.C (Kd.int .u8) _ A40 y479.length y479 := (by rw [hA40]; exact hr40); rw [← hy40, ← hA40, ← hc40] at hcut40; have HR482 := Aside0.mk hr40; have HC482 := Aside0.mk (show y479.length ≤ c40 from by rw [hy40, hc40]; exact Nat.sub_le_sub_right hroom40 _); clear hr40 hC40 hroom40 hi040 hsz40 hc40; have KY40 := Aside0.mk hy40; have KA40 := Aside0.mk hA40; clear hy40 hA40; have KL40 := Aside0.mk (show ((t454.length : Int) : Int).toNat ≤ t470.length from by omega); replace q40 := eq_true q40) | (go_at_call 15; (with_reducible refine (lockgatekit_SameBytes.calls k3 _ _ y479 _ _ t458 t483 _ ?side1 ?side2 ?side3 ?side4 A35.out).mono ?_); (case side1 => repeat (first | exact (by repeat (first | (with_reducible exact HR482.out) | (with_reducible refine Kd.C_alloc ?_ _) | (with_reducible refine Kd.C_drewN ?_ _) | (with_reducible refine Kd.C_drew ?_) | exact HR482.out)) | (with_reducible refine Kd.C_alloc ?_ _) | (with_reducible refine Kd.C_drewN ?_ _) | (with_reducible refine Kd.C_drew ?_))); (case side2 => exact HC482.out); (case side3 => repeat (first | exact (Kd.R_reads' HO_7.out).2.2 | (with_reducible refine Kd.C_alloc ?_ _) | (with_reducible refine Kd.C_drewN ?_ _) | (with_reducible refine Kd.C_drew ?_))); (case side4 => exact (Kd.R_reads' HO_7.out).2.1); rintro e w' ⟨rfl, ⟨nd, rfl⟩⟩))
                go_meet
                case rel => exact ⟨_, (!t483), (by first | rfl | (simp; done) | (simp [*]; done)), H', ⟨by have := HJ2.out; have := HJ9.out; have := HK3.out; first | omega | exact Nat.le_refl _⟩, ⟨by (with_reducible repeat (first | apply Kd.R_alloc | apply Kd.R_drewN | apply Kd.R_drew)); exact Kd.R_mono HO_5.out (fun _ hk => hk.1)⟩, ⟨by (with_reducible repeat (first | apply Kd.R_alloc | apply Kd.R_drewN | apply Kd.R_drew)); exact Kd.R_mono HO_7.out (fun _ hk => hk.1)⟩, ⟨bz_⟩⟩
               ·replace c32 := Bool.eq_false_iff.mpr c32
                subst c32
                have H1 : (lockgatelaw02_InsnApart.j3 k3 l0 l1 t454 t458 true) = some r := by rw [if_neg (show ¬ (false = true) by decide)] at H; exact H
                clear H
                have H := H1
                clear H1
                exfalso
                cases k3 with
                | zero => rw [lockgatelaw02_InsnApart.j3] at H; exact nomatch H
                | succ q_ => rw [lockgatelaw02_InsnApart.j3, if_pos rfl] at H; exact absurd ((Option.some.inj H).trans HRT.out) (by decide)
              ·rw [if_neg c30] at H
               exact absurd H (by simp)
             ·rw [if_neg c29] at H
              exact absurd H (by simp)
            ·rw [if_neg c28] at H
             have c28b0 : ((t470.length : Int) == (wrap64 ((t454.length : Int) + (t458.length : Int)))) = false := beq_eq_false_iff_ne.mpr c28
             have c28b1 : ((t470.length : Int) != (wrap64 ((t454.length : Int) + (t458.length : Int)))) = true := bne_iff_ne.mpr c28
             exfalso
             cases k3 with
             | zero => rw [lockgatelaw02_InsnApart.j3] at H; exact nomatch H
             | succ q_ => rw [lockgatelaw02_InsnApart.j3, if_pos rfl] at H; exact absurd ((Option.some.inj H).trans HRT.out) (by decide)
           ·rw [if_neg c27] at H
            have c27b0 : (t471 == 0) = false := beq_eq_false_iff_ne.mpr c27
            have c27b1 : (t471 != 0) = true := bne_iff_ne.mpr c27
            (first | rw [c27b0] | (simp only [i64_w, i32_w]; rw [c27b0]) | skip)
            exfalso
            cases k3 with
            | zero => rw [lockgatelaw02_InsnApart.j3] at H; exact nomatch H
            | succ q_ => rw [lockgatelaw02_InsnApart.j3, if_pos rfl] at H; exact absurd ((Option.some.inj H).trans HRT.out) (by decide)
          case rest =>
           clear HC24
           try clear c1
           try clear c2
           try clear p2
           try clear c3
           try clear q3
           try clear c4
           try clear c4b0
           try clear c4b1
           try clear p4
           try clear q4
           try clear hx4
           try clear c5
           try clear p6
           try clear c7
           try clear c11
           try clear c13
           try clear c13b0
           try clear c13b1
           try clear c14
           try clear c19
           try clear c19b0
           try clear c20
           try clear c20b0
           try clear c21
           try clear c26
           try clear c27
           try clear c27b0
           try clear c27b1
           try clear c28
           try clear c28b0
           try clear c28b1
           try clear c29
           try clear c29b0
           try clear c29b1
           try clear c30
           try clear c30b0
           try clear c30b1
           try clear c32
           try clear c33
           try clear c33b0
           try clear c34
           try clear c34b0
           try clear q39
           try clear c40
           try clear q40
           try clear hx466_0
           try clear hx466_1
           try clear hx466_2
           try clear hx466_3
           try clear hx466_4
           try clear p2
           try clear p466
           try clear q040
           try clear q39
           try clear q40
           try clear q466
           obtain ⟨kq, x88_23, rfl, HA, HJ23, HO_5, HO_7, HB⟩ := hcut
           cases kq with
           | zero => exact absurd HA.out (by simp [lockgatelaw02_InsnApart.j3])
           | succ kj23 =>
            have H := HA.out
            clear HA
            simp only [lockgatelaw02_InsnApart.j3] at H
            by_cases c41 : x88_23 = true
            ·subst c41
             have H1 : (some false) = some r := by rw [if_pos rfl] at H; exact H
             clear H
             have H := H1
             clear H1
             exact absurd ((Option.some.inj H).trans HRT.out) (by decide)
            ·replace c41 := Bool.eq_false_iff.mpr c41
             subst c41
             have H1 : ((lockgatekit_SameBytes.f kj23 t454 t458).bind fun t484 => ((lockgatekit_SameInsns.f kj23 l0 l1).bind fun t485 => (if (t484 == t485) = true then ((lockgatelaw02_works.f kj23).bind fun t486 => (some t486)) else (some false)))) = some r := by rw [if_neg (show ¬ (false = true) by decide)] at H; exact H
             clear H
             have H := H1
             clear H1
             replace H := Option.bind_eq_some_iff.mp H
             obtain ⟨t484, A420, H⟩ := H
             replace H : ((lockgatekit_SameInsns.f kj23 l0 l1).bind fun t485 => (if (t484 == t485) = true then ((lockgatelaw02_works.f kj23).bind fun t486 => (some t486)) else (some false))) = some r := H
             have A42 := Aside0.mk A420
             clear A420
             replace H := Option.bind_eq_some_iff.mp H
             obtain ⟨t485, A430, H⟩ := H
             replace H : (if (t484 == t485) = true then ((lockgatelaw02_works.f kj23).bind fun t486 => (some t486)) else (some false)) = some r := H
             have A43 := Aside0.mk A430
             clear A430
             by_cases c44 : (t484 == t485) = true
             ·rw [if_pos c44] at H
              have c44b0 : (t484 == t485) = true := c44
              (try (have c44b1 : decide (t484 = t485) = true := by simpa using c44))
              (try (have c44b2 : (t484 == t485) = true := by simpa using c44))
              clear c44
              replace H := Option.bind_eq_some_iff.mp H
              obtain ⟨t486, A450, H⟩ := H
              replace H : (some t486) = some r := H
              have A45 := Aside0.mk A450
              clear A450
              obtain rfl := Option.some.inj H
              obtain ⟨Ao46, co46, eo46⟩ := Kd.R_slice HO_5.out
              subst eo46
              obtain ⟨Ao47, co47, eo47⟩ := Kd.R_slice HO_7.out
              subst eo47
              go_wp2_with (first | ((with_reducible refine gate_callee (f := 15) rfl ?_); refine goesL_ (some 91) rfl rfl Try.func15 (by kernel_rfl) rfl #[.slice Ao46 t454.length co46, .slice Ao47 t458.length co47] rfl (by (try simp only [List.map_toArray, List.map_cons, List.map_nil]); first | done | rfl | (simp only [List.length_drop, List.length_take]; rfl)) ?_; (with_reducible refine (lockgatekit_SameBytes.calls kj23 _ _ t454 _ _ t458 t484 _ ?side1 ?side2 ?side3 ?side4 A42.out).mono ?_); (case side1 => repeat (first | exact (Kd.R_reads' HO_5.out).2.2 | (with_reducible refine Kd.C_alloc ?_ _) | (with_reducible refine Kd.C_drewN ?_ _) | (with_reducible refine Kd.C_drew ?_))); (case side2 => exact (Kd.R_reads' HO_5.out).2.1); (case side3 => repeat (first | exact (Kd.R_reads' HO_7.out).2.2 | (with_reducible refine Kd.C_alloc ?_ _) | (with_reducible refine Kd.C_drewN ?_ _) | (with_reducible refine Kd.C_drew ?_))); (case side4 => exact (Kd.R_reads' HO_7.out).2.1); rintro e w' ⟨rfl, ⟨nd, rfl⟩⟩; refine ⟨_, rfl, ?_⟩) | ((with_reducible refine gate_callee (f := 21) rfl ?_); refine goesL_ (some 94) rfl rfl Try.func21 (by kernel_rfl) rfl #[.slice A0 l0.length c0, .slice A1 l1.length c1] rfl (by (try simp only [List.map_toArray, List.map_cons, List.map_nil]); first | done | rfl | (simp only [List.length_drop, List.length_take]; rfl)) ?_; (with_reducible refine (lockgatekit_SameInsns.calls kj23 _ _ l0 _ _ l1 t485 _ ?side1 ?side2 ?side3 ?side4 A43.out).mono ?_); (case side1 => repeat (first | exact (Kd.C_below HR0.out bz_) | (with_reducible refine Kd.C_alloc ?_ _) | (with_reducible refine Kd.C_drewN ?_ _) | (with_reducible refine Kd.C_drew ?_))); (case side2 => exact HC0.out); (case side3 => repeat (first | exact (Kd.C_below HR1.out bz_) | (with_reducible refine Kd.C_alloc ?_ _) | (with_reducible refine Kd.C_drewN ?_ _) | (with_reducible refine Kd.C_drew ?_))); (case side4 => exact HC1.out); rintro e w' ⟨rfl, ⟨nd, rfl⟩⟩; refine ⟨_, rfl, ?_⟩) | (go_at_call 11; (with_reducible refine (lockgatelaw02_works.calls kj23  t486 _ A45.out).mono ?_); rintro e w48 ⟨rfl, hb⟩; replace HO_5 := Aside0.mk (Kd.R_below (by (with_reducible repeat (first | apply Kd.R_alloc | apply Kd.R_drewN | apply Kd.R_drew)); exact HO_5.out) hb); replace HO_7 := Aside0.mk (Kd.R_below (by (with_reducible repeat (first | apply Kd.R_alloc | apply Kd.R_drewN | apply Kd.R_drew)); exact HO_7.out) hb); replace HB := bl_ hb; (try clear hb); (try clear hb2); (try clear hk); (try clear hi)))
              go_ret
              exact ⟨vv_, bz_⟩
             ·rw [if_neg c44] at H
              have c44b0 : (t484 == t485) = false := by simpa using c44
              (try (have c44b1 : decide (t484 = t485) = false := by simpa using c44))
              (try (have c44b2 : (t484 == t485) = false := by simpa using c44))
              (try (have c44b3 : ¬ (t484 = t485) := by simpa using c44))
              clear c44
              exact absurd ((Option.some.inj H).trans HRT.out) (by decide)

end Go.Proofs.Yticijjonimiooaa.PA
