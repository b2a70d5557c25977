-- PRINTED by print.py (a twelfth state) out of the translation. Not trusted: Lean checks it.
import Derived.Test.YtnephcecobocdaaWTab
import Derived.Test.YtnephcecobocdaaPA0
import Derived.Test.YtnephcecobocdaaSq
import Derived.Test.YtnephcecobocdaaPA5
import Derived.Test.YtnephcecobocdaaPA6
namespace Go.Proofs.Ytnephcecobocdaa.PA
open Go.RowKit Go.Proofs.YtnephcecobocdaaW.PrintWords Go.Proofs.YtnephcecobocdaaW.PrintLast Go.Proofs.YtnephcecobocdaaW.PrintMore
attribute [local go_sem] max2_int min2_int max_two min_two max_three min_three max_four min_four   -- for this text's walks alone
set_option linter.unusedVariables false
set_option linter.unusedSimpArgs false

/-! ### span_UAnd: function 45 -/
def span_UAnd.f (a0_0 : Int) (a0_1 : Int) (a1_0 : Int) (a1_1 : Int) : Option (Int × Int) := (span_alone.f a0_0 a0_1).bind fun t486 => (if t486 = true then ((span_alone.f a1_0 a1_1).bind fun t487 => (if t487 = true then ((span_UOf.f (Go.bits .and .u64 a0_0 a1_0)).bind fun bt488 => (some (bt488.1, bt488.2))) else (some (0, mn a0_1 a1_1)))) else (some (0, mn a0_1 a1_1)))
set_option maxHeartbeats 8000000 in
set_option maxRecDepth 100000 in
theorem span_UAnd.calls (a0_0 : Int) (a0_1 : Int) (a1_0 : Int) (a1_1 : Int) (r1 : Int) (r2 : Int) (w : World) (h : span_UAnd.f a0_0 a0_1 a1_0 a1_1 = some (r1, r2)) :
 Calls Try.prog 45 #[.agg #[.int .u64 a0_0, .int .u64 a0_1], .agg #[.int .u64 a1_0, .int .u64 a1_1]] w fun e w' => e = .returned (.agg #[.int .u64 r1, .int .u64 r2]) ∧ Below w.heap.size w w' := by
 have hu26 := Try.underlying26
 have HB := Aside0.mk (Below.refl w.heap.size w)
 have H : ((span_alone.f a0_0 a0_1).bind fun t486 => (if t486 = true then ((span_alone.f a1_0 a1_1).bind fun t487 => (if t487 = true then ((span_UOf.f (Go.bits .and .u64 a0_0 a1_0)).bind fun bt488 => (some (bt488.1, bt488.2))) else (some (0, mn a0_1 a1_1)))) else (some (0, mn a0_1 a1_1)))) = some (r1, r2) := h
 clear h
 replace H := Option.bind_eq_some_iff.mp H
 obtain ⟨t486, A30, H⟩ := H
 replace H : (if t486 = true then ((span_alone.f a1_0 a1_1).bind fun t487 => (if t487 = true then ((span_UOf.f (Go.bits .and .u64 a0_0 a1_0)).bind fun bt488 => (some (bt488.1, bt488.2))) else (some (0, mn a0_1 a1_1)))) else (some (0, mn a0_1 a1_1))) = some (r1, r2) := H
 have A3 := Aside0.mk A30
 clear A30
 by_cases c4 : t486 = true
 ·subst c4
  have H1 : ((span_alone.f a1_0 a1_1).bind fun t487 => (if t487 = true then ((span_UOf.f (Go.bits .and .u64 a0_0 a1_0)).bind fun bt488 => (some (bt488.1, bt488.2))) else (some (0, mn a0_1 a1_1)))) = some (r1, r2) := by rw [if_pos rfl] at H; exact H
  clear H
  have H := H1
  clear H1
  replace H := Option.bind_eq_some_iff.mp H
  obtain ⟨t487, A50, H⟩ := H
  replace H : (if t487 = true then ((span_UOf.f (Go.bits .and .u64 a0_0 a1_0)).bind fun bt488 => (some (bt488.1, bt488.2))) else (some (0, mn a0_1 a1_1))) = some (r1, r2) := H
  have A5 := Aside0.mk A50
  clear A50
  by_cases c6 : t487 = true
  ·subst c6
   have H1 : ((span_UOf.f (Go.bits .and .u64 a0_0 a1_0)).bind fun bt488 => (some (bt488.1, bt488.2))) = some (r1, r2) := by rw [if_pos rfl] at H; exact H
   clear H
   have H := H1
   clear H1
   replace H := Option.bind_eq_some_iff.mp H
   obtain ⟨⟨t488, t489⟩, A70, H⟩ := H
   replace H : (some (t488, t489)) = some (r1, r2) := H
   have A7 := Aside0.mk A70
   clear A70
   simp only [Option.some.injEq, Prod.mk.injEq] at H
   obtain ⟨rfl, rfl⟩ := H
   go_enter Try.func45, Try.ntmps45
   go_wp2_with (first | ((with_reducible refine gate_dst (N := 2) rfl ?_); refine bx_ 2 #[.int .u64 a0_0, .int .u64 a0_1] 26 ?_; intro gb483 hg w8 BK483 hb; have GW483 := bg_ hg; have GE483 := GW483; replace HB := bl_ hb; clear hb hg) | ((with_reducible refine gate_dst (N := 3) rfl ?_); refine bx_ 3 #[.int .u64 a1_0, .int .u64 a1_1] 26 ?_; intro gb484 hg w9 BK484 hb; have GW484 := bg_ hg; have GE484 := GW484; have NB483_484 := bm_ hg BK483; have NB484_483 := bn_ hg BK483; replace BK483 := bb_ hb BK483; replace HB := bl_ hb; clear hb hg) | ((with_reducible refine gate_dst (N := 4) rfl ?_); refine bx_ 4 #[.int .u64 0, .int .u64 0] 26 ?_; intro gb485 hg w10 BK485 hb; have GW485 := bg_ hg; have GE485 := GW485; have NB483_485 := bm_ hg BK483; have NB485_483 := bn_ hg BK483; have NB484_485 := bm_ hg BK484; have NB485_484 := bn_ hg BK484; replace BK483 := bb_ hb BK483; replace BK484 := bb_ hb BK484; replace HB := bl_ hb; clear hb hg; have hnb11 := NB483_484.out; have hnc11 := NB484_483.out; have hnb12 := NB483_485.out; have hnc12 := NB485_483.out; have hcz13_0 := c0_ BK483; have hcz13_1 := c1_ BK483; have hfz13_0 := fz_ BK483 0; have hfz13_1 := fz_ BK483 1) | ((with_reducible refine gate_callee (f := 89) rfl ?_); refine goesL_ (some 6) rfl rfl Try.func89 (by kernel_rfl) rfl #[.agg #[.int .u64 a0_0, .int .u64 a0_1]] rfl (by (try simp only [List.map_toArray, List.map_cons, List.map_nil]); first | done | rfl) ?_; (with_reducible refine (span_alone.calls a0_0 a0_1 true _ A3.out).mono ?_); rintro e w14 ⟨rfl, hb⟩; refine ⟨_, rfl, ?_⟩; replace BK483 := bb_ hb BK483; replace BK484 := bb_ hb BK484; replace BK485 := bb_ hb BK485; replace HB := bl_ hb; (try clear hb); (try clear hb2); (try clear hk); (try clear hi); have hnb15 := NB484_485.out; have hnc15 := NB485_484.out; have hcz16_0 := c0_ BK484; have hcz16_1 := c1_ BK484; have hfz16_0 := fz_ BK484 0; have hfz16_1 := fz_ BK484 1) | (go_at_call 89; (with_reducible refine (span_alone.calls a1_0 a1_1 true _ A5.out).mono ?_); rintro e w17 ⟨rfl, hb⟩; replace BK483 := bb_ hb BK483; replace BK484 := bb_ hb BK484; replace BK485 := bb_ hb BK485; replace HB := bl_ hb; (try clear hb); (try clear hb2); (try clear hk); (try clear hi); have hcz18_0 := c0_ BK483; have hcz18_1 := c1_ BK483; have hfz18_0 := fz_ BK483 0; have hfz18_1 := fz_ BK483 1; have hcz19_0 := c0_ BK484; have hcz19_1 := c1_ BK484; have hfz19_0 := fz_ BK484 0; have hfz19_1 := fz_ BK484 1) | ((with_reducible refine gate_callee (f := 42) rfl ?_); refine goesL_ (some 16) rfl rfl Try.func42 (by kernel_rfl) rfl #[.int .u64 (Go.bits .and .u64 a0_0 a1_0)] rfl (by (try simp only [List.map_toArray, List.map_cons, List.map_nil]); first | done | rfl) ?_; (with_reducible refine (span_UOf.calls (Go.bits .and .u64 a0_0 a1_0) t488 t489 _ A7.out).mono ?_); rintro e w20 ⟨rfl, hb⟩; refine ⟨_, rfl, ?_⟩; replace BK483 := bb_ hb BK483; replace BK484 := bb_ hb BK484; replace BK485 := bb_ hb BK485; replace HB := bl_ hb; (try clear hb); (try clear hb2); (try clear hk); (try clear hi); have hcz21_0 := c0_ BK485; have hcz21_1 := c1_ BK485; have hfz21_0 := fz_ BK485 0; have hfz21_1 := fz_ BK485 1))
   refine bodyPost_ret (results_cell_row rfl _ _ gb485 26 #[.int .u64 t488, .int .u64 t489] (0, 0) _ rfl (by (with_reducible repeat (first | apply bN_ | apply bD_ | apply bA_)); refine blk_put (cs := #[.int .u64 t488, .int .u64 0]) ?_ 1 _ rfl; (with_reducible repeat (first | apply bN_ | apply bD_ | apply bA_)); refine blk_put (cs := #[.int .u64 0, .int .u64 0]) ?_ 0 _ rfl; exact bk_) Try.underlying26 rfl (by kernel_rfl)) rfl ?_
   exact ⟨vv_, bz_⟩
  ·replace c6 := Bool.eq_false_iff.mpr c6
   subst c6
   have H1 : (some (0, mn a0_1 a1_1)) = some (r1, r2) := by rw [if_neg (show ¬ (false = true) by decide)] at H; exact H
   clear H
   have H := H1
   clear H1
   obtain ⟨ji22, hji22⟩ : ∃ j_ : Int, (mn a0_1 a1_1) = j_ := ⟨_, rfl⟩
   replace H : (some (0, ji22)) = some (r1, r2) := by first | (rw [hji22] at H; exact H) | (simp only [hji22] at H ⊢; exact H)
   (try rw [hji22] at A3)
   (try rw [hji22] at A5)
   have hji22_ : (if a1_1 < a0_1 then a1_1 else a0_1) = ji22 := hji22
   simp only [Option.some.injEq, Prod.mk.injEq] at H
   obtain ⟨rfl, rfl⟩ := H
   go_enter Try.func45, Try.ntmps45
   go_wp2_with (first | ((with_reducible refine gate_dst (N := 2) rfl ?_); refine bx_ 2 #[.int .u64 a0_0, .int .u64 a0_1] 26 ?_; intro gb483 hg w23 BK483 hb; have GW483 := bg_ hg; have GE483 := GW483; replace HB := bl_ hb; clear hb hg) | ((with_reducible refine gate_dst (N := 3) rfl ?_); refine bx_ 3 #[.int .u64 a1_0, .int .u64 a1_1] 26 ?_; intro gb484 hg w24 BK484 hb; have GW484 := bg_ hg; have GE484 := GW484; have NB483_484 := bm_ hg BK483; have NB484_483 := bn_ hg BK483; replace BK483 := bb_ hb BK483; replace HB := bl_ hb; clear hb hg) | ((with_reducible refine gate_dst (N := 4) rfl ?_); refine bx_ 4 #[.int .u64 0, .int .u64 0] 26 ?_; intro gb485 hg w25 BK485 hb; have GW485 := bg_ hg; have GE485 := GW485; have NB483_485 := bm_ hg BK483; have NB485_483 := bn_ hg BK483; have NB484_485 := bm_ hg BK484; have NB485_484 := bn_ hg BK484; replace BK483 := bb_ hb BK483; replace BK484 := bb_ hb BK484; replace HB := bl_ hb; clear hb hg; have hnb26 := NB483_484.out; have hnc26 := NB484_483.out; have hnb27 := NB483_485.out; have hnc27 := NB485_483.out; have hcz28_0 := c0_ BK483; have hcz28_1 := c1_ BK483; have hfz28_0 := fz_ BK483 0; have hfz28_1 := fz_ BK483 1) | ((with_reducible refine gate_callee (f := 89) rfl ?_); refine goesL_ (some 6) rfl rfl Try.func89 (by kernel_rfl) rfl #[.agg #[.int .u64 a0_0, .int .u64 a0_1]] rfl (by (try simp only [List.map_toArray, List.map_cons, List.map_nil]); first | done | rfl) ?_; (with_reducible refine (span_alone.calls a0_0 a0_1 true _ A3.out).mono ?_); rintro e w29 ⟨rfl, hb⟩; refine ⟨_, rfl, ?_⟩; replace BK483 := bb_ hb BK483; replace BK484 := bb_ hb BK484; replace BK485 := bb_ hb BK485; replace HB := bl_ hb; (try clear hb); (try clear hb2); (try clear hk); (try clear hi); have hnb30 := NB484_485.out; have hnc30 := NB485_484.out; have hcz31_0 := c0_ BK484; have hcz31_1 := c1_ BK484; have hfz31_0 := fz_ BK484 0; have hfz31_1 := fz_ BK484 1) | (go_at_call 89; (with_reducible refine (span_alone.calls a1_0 a1_1 false _ A5.out).mono ?_); rintro e w32 ⟨rfl, hb⟩; replace BK483 := bb_ hb BK483; replace BK484 := bb_ hb BK484; replace BK485 := bb_ hb BK485; replace HB := bl_ hb; (try clear hb); (try clear hb2); (try clear hk); (try clear hi); have hcz33_0 := c0_ BK483; have hcz33_1 := c1_ BK483; have hfz33_0 := fz_ BK483 0; have hfz33_1 := fz_ BK483 1; have hcz34_0 := c0_ BK484; have hcz34_1 := c1_ BK484; have hfz34_0 := fz_ BK484 0; have hfz34_1 := fz_ BK484 1; have hcz35_0 := c0_ BK485; have hcz35_1 := c1_ BK485; have hfz35_0 := fz_ BK485 0; have hfz35_1 := fz_ BK485 1))
   refine bodyPost_ret (results_cell_row rfl _ _ gb485 26 #[.int .u64 0, .int .u64 ji22] (0, 0) _ rfl (by (with_reducible repeat (first | apply bN_ | apply bD_ | apply bA_)); refine blk_put (cs := #[.int .u64 0, .int .u64 0]) ?_ 1 _ rfl; (with_reducible repeat (first | apply bN_ | apply bD_ | apply bA_)); refine blk_put (cs := #[.int .u64 0, .int .u64 0]) ?_ 0 _ rfl; exact bk_) Try.underlying26 rfl (by kernel_rfl)) rfl ?_
   exact ⟨by first | rfl | (simp [errW_none, errW_some] <;> rfl) | (simp only [← hji22]; first | rfl | (simp [errW_none, errW_some] <;> rfl)) | (simp [*, errW_none, errW_some] <;> rfl), bz_⟩
 ·replace c4 := Bool.eq_false_iff.mpr c4
  subst c4
  have H1 : (some (0, mn a0_1 a1_1)) = some (r1, r2) := by rw [if_neg (show ¬ (false = true) by decide)] at H; exact H
  clear H
  have H := H1
  clear H1
  obtain ⟨ji36, hji36⟩ : ∃ j_ : Int, (mn a0_1 a1_1) = j_ := ⟨_, rfl⟩
  replace H : (some (0, ji36)) = some (r1, r2) := by first | (rw [hji36] at H; exact H) | (simp only [hji36] at H ⊢; exact H)
  (try rw [hji36] at A3)
  have hji36_ : (if a1_1 < a0_1 then a1_1 else a0_1) = ji36 := hji36
  simp only [Option.some.injEq, Prod.mk.injEq] at H
  obtain ⟨rfl, rfl⟩ := H
  go_enter Try.func45, Try.ntmps45
  go_wp2_with (first | ((with_reducible refine gate_dst (N := 2) rfl ?_); refine bx_ 2 #[.int .u64 a0_0, .int .u64 a0_1] 26 ?_; intro gb483 hg w37 BK483 hb; have GW483 := bg_ hg; have GE483 := GW483; replace HB := bl_ hb; clear hb hg) | ((with_reducible refine gate_dst (N := 3) rfl ?_); refine bx_ 3 #[.int .u64 a1_0, .int .u64 a1_1] 26 ?_; intro gb484 hg w38 BK484 hb; have GW484 := bg_ hg; have GE484 := GW484; have NB483_484 := bm_ hg BK483; have NB484_483 := bn_ hg BK483; replace BK483 := bb_ hb BK483; replace HB := bl_ hb; clear hb hg) | ((with_reducible refine gate_dst (N := 4) rfl ?_); refine bx_ 4 #[.int .u64 0, .int .u64 0] 26 ?_; intro gb485 hg w39 BK485 hb; have GW485 := bg_ hg; have GE485 := GW485; have NB483_485 := bm_ hg BK483; have NB485_483 := bn_ hg BK483; have NB484_485 := bm_ hg BK484; have NB485_484 := bn_ hg BK484; replace BK483 := bb_ hb BK483; replace BK484 := bb_ hb BK484; replace HB := bl_ hb; clear hb hg; have hnb40 := NB483_484.out; have hnc40 := NB484_483.out; have hnb41 := NB483_485.out; have hnc41 := NB485_483.out; have hcz42_0 := c0_ BK483; have hcz42_1 := c1_ BK483; have hfz42_0 := fz_ BK483 0; have hfz42_1 := fz_ BK483 1) | ((with_reducible refine gate_callee (f := 89) rfl ?_); refine goesL_ (some 6) rfl rfl Try.func89 (by kernel_rfl) rfl #[.agg #[.int .u64 a0_0, .int .u64 a0_1]] rfl (by (try simp only [List.map_toArray, List.map_cons, List.map_nil]); first | done | rfl) ?_; (with_reducible refine (span_alone.calls a0_0 a0_1 false _ A3.out).mono ?_); rintro e w43 ⟨rfl, hb⟩; refine ⟨_, rfl, ?_⟩; replace BK483 := bb_ hb BK483; replace BK484 := bb_ hb BK484; replace BK485 := bb_ hb BK485; replace HB := bl_ hb; (try clear hb); (try clear hb2); (try clear hk); (try clear hi); have hcz44_0 := c0_ BK483; have hcz44_1 := c1_ BK483; have hfz44_0 := fz_ BK483 0; have hfz44_1 := fz_ BK483 1; have hnb45 := NB484_485.out; have hnc45 := NB485_484.out; have hcz46_0 := c0_ BK484; have hcz46_1 := c1_ BK484; have hfz46_0 := fz_ BK484 0; have hfz46_1 := fz_ BK484 1; have hcz47_0 := c0_ BK485; have hcz47_1 := c1_ BK485; have hfz47_0 := fz_ BK485 0; have hfz47_1 := fz_ BK485 1))
  refine bodyPost_ret (results_cell_row rfl _ _ gb485 26 #[.int .u64 0, .int .u64 ji36] (0, 0) _ rfl (by (with_reducible repeat (first | apply bN_ | apply bD_ | apply bA_)); refine blk_put (cs := #[.int .u64 0, .int .u64 0]) ?_ 1 _ rfl; (with_reducible repeat (first | apply bN_ | apply bD_ | apply bA_)); refine blk_put (cs := #[.int .u64 0, .int .u64 0]) ?_ 0 _ rfl; exact bk_) Try.underlying26 rfl (by kernel_rfl)) rfl ?_
  exact ⟨by first | rfl | (simp [errW_none, errW_some] <;> rfl) | (simp only [← hji36]; first | rfl | (simp [errW_none, errW_some] <;> rfl)) | (simp [*, errW_none, errW_some] <;> rfl), bz_⟩

/-! ### span_URsh: function 47 -/
def span_URsh.f (a0_0 : Int) (a0_1 : Int) (a1 : Int) : Option (Int × Int) := if 0 ≤ (Go.bits .and .i64 a1 63) then (some (shr .u64 a0_0 (Go.bits .and .i64 a1 63), shr .u64 a0_1 (Go.bits .and .i64 a1 63))) else (none)
def span_URsh.T2 : Bool × List (List Nat × List Nat) := (true, [([], []), ([0], [0]), ([], []), ([1, 2], [1, 2]), ([], []), ([4], [4]), ([], []), ([5, 6], [5, 6]), ([3, 7], [3, 7]), ([8, 0, 1, 2, 3, 4, 5, 6, 7, 8], [8])])
def span_URsh.B2 : List Nat := [0, 1, 0, 7, 0, 16, 0, 112, 255, 511]
theorem span_URsh.tab2 : rtab .any (opsOf Try.f47 2) = span_URsh.T2 := by kernel_rfl
theorem span_URsh.bits2 : waitsOk span_URsh.T2.2 span_URsh.B2 = true := by kernel_rfl
set_option maxHeartbeats 8000000 in
set_option maxRecDepth 100000 in
theorem span_URsh.calls (a0_0 : Int) (a0_1 : Int) (a1 : Int) (r1 : Int) (r2 : Int) (w : World) (h : span_URsh.f a0_0 a0_1 a1 = some (r1, r2)) :
 Calls Try.prog 47 #[.agg #[.int .u64 a0_0, .int .u64 a0_1], .int .i64 a1] w fun e w' => e = .returned (.agg #[.int .u64 r1, .int .u64 r2]) ∧ Below w.heap.size w w' := by
 have hu26 := Try.underlying26
 have HB := Aside0.mk (Below.refl w.heap.size w)
 have H : (if 0 ≤ (Go.bits .and .i64 a1 63) then (some (shr .u64 a0_0 (Go.bits .and .i64 a1 63), shr .u64 a0_1 (Go.bits .and .i64 a1 63))) else (none)) = some (r1, r2) := h
 clear h
 by_cases c3 : 0 ≤ (Go.bits .and .i64 a1 63)
 ·rw [if_pos c3] at H
  have c3b0 := eq_true c3
  have c3b1 : decide (0 ≤ (Go.bits .and .i64 a1 63)) = true := decide_eq_true c3
  clear c3
  obtain ⟨ji4, hji4⟩ : ∃ j_ : Int, (shr .u64 a0_0 (Go.bits .and .i64 a1 63)) = j_ := ⟨_, rfl⟩
  replace H : (some (ji4, shr .u64 a0_1 (Go.bits .and .i64 a1 63))) = some (r1, r2) := by first | (rw [hji4] at H; exact H) | (simp only [hji4] at H ⊢; exact H)
  have hji4_ : (a0_0 / 2 ^ min (Go.bits .and .i64 a1 63).toNat 64) = ji4 := hji4
  have hji4z : (Go.bits .and .i64 a1 63) ≤ 64 → (a0_0 / 2 ^ (Go.bits .and .i64 a1 63).toNat) = ji4 := shr_small hji4
  have c5b0 := eq_true (of_decide_eq_true (by first | (with_reducible assumption) | assumption) : 0 ≤ (Go.bits .and .i64 a1 63))
  obtain ⟨ji6, hji6⟩ : ∃ j_ : Int, (shr .u64 a0_1 (Go.bits .and .i64 a1 63)) = j_ := ⟨_, rfl⟩
  replace H : (some (ji4, ji6)) = some (r1, r2) := by first | (rw [hji6] at H; exact H) | (simp only [hji6] at H ⊢; exact H)
  have hji6_ : (a0_1 / 2 ^ min (Go.bits .and .i64 a1 63).toNat 64) = ji6 := hji6
  have hji6z : (Go.bits .and .i64 a1 63) ≤ 64 → (a0_1 / 2 ^ (Go.bits .and .i64 a1 63).toNat) = ji6 := shr_small hji6
  simp only [Option.some.injEq, Prod.mk.injEq] at H
  obtain ⟨rfl, rfl⟩ := H
  go_enter Try.func47, Try.ntmps47
  try go_wp2_with (first | ((with_reducible refine gate_dst (N := 2) rfl ?_); refine bx_ 2 #[.int .u64 a0_0, .int .u64 a0_1] 26 ?_; intro gb490 hg w7 BK490 hb; have GW490 := bg_ hg; have GE490 := GW490; replace HB := bl_ hb; clear hb hg) | ((with_reducible refine gate_dst (N := 4) rfl ?_); refine bx_ 4 #[.int .u64 0, .int .u64 0] 26 ?_; intro gb491 hg w8 BK491 hb; have GW491 := bg_ hg; have GE491 := GW491; have NB490_491 := bm_ hg BK490; have NB491_490 := bn_ hg BK490; replace BK490 := bb_ hb BK490; replace HB := bl_ hb; clear hb hg))
  replace BK490 := Aside0.mk (blk_drew BK490.out)
  replace BK491 := Aside0.mk (blk_drew BK491.out)
  replace HB := Aside0.mk (below_drew1 HB.out)
  refine start_ (n := 10) (S := fun w' => w'.cell? ⟨gb490, 0, none⟩ = some (.int .u64 a0_0) ∧ w'.cell? ⟨gb490, 1, none⟩ = some (.int .u64 a0_1)) (ds := []) #[n_,n_,n_,n_,n_,n_,n_,n_,n_,n_] (by kernel_rfl) rfl rfl ⟨c0_ BK490, c1_ BK490⟩ (fun hHeld => ?_); refine with_tabW span_URsh.tab2 span_URsh.bits2 (fun HT_ HW_ => ?_)
  generalize w8.drew = w9 at BK490 BK491 HB hHeld ⊢
  refine pq_ 0 7 #[y_,n_,n_,n_,n_,n_,n_,n_,n_,n_] ?_
  refine pq_ 2 9 #[y_,n_,y_,n_,n_,n_,n_,n_,n_,n_] ?_
  refine pq_ 4 11 #[y_,n_,y_,n_,y_,n_,n_,n_,n_,n_] ?_
  refine pq_ 6 13 #[y_,n_,y_,n_,y_,n_,y_,n_,n_,n_] ?_
  refine tq0_ 1 8 #[y_,y_,y_,n_,y_,n_,y_,n_,n_,n_] hHeld ?_
  refine pq_ 3 10 #[y_,y_,y_,y_,y_,n_,y_,n_,n_,n_] ?_
  refine tq0_ 5 12 #[y_,y_,y_,y_,y_,y_,y_,n_,n_,n_] hHeld ?_
  refine pq_ 7 14 #[y_,y_,y_,y_,y_,y_,y_,y_,n_,n_] ?_
  refine pq_ 8 15 #[y_,y_,y_,y_,y_,y_,y_,y_,y_,n_] ?_
  refine one_ (i := 9) (N := none) #[y_,y_,y_,y_,y_,y_,y_,y_,y_,y_] rfl rfl (one_of HT_.out (by kernel_rfl)) (by decide) (fun K hK => ?_)
  have hs10 := c0_ BK491
  have hfs10 := fz_ BK491 0
  have hns10_0 := NB490_491.out
  have hms10_0 := NB491_490.out
  have hs11 := c1_ BK491
  have hfs11 := fz_ BK491 1
  have hns11_0 := NB490_491.out
  have hms11_0 := NB491_490.out
  refine skip_ (w1 := ?_) (by rfl) rfl ?_ ?_
  rotate_left
  ·go_simp
   rfl
  refine hK.out _ _ ⟨((cell_far (p := ⟨gb491, _, none⟩) NB490_491.out _).trans (((cell_far (p := ⟨gb491, _, none⟩) NB490_491.out _).trans (hHeld.1)))), ((cell_far (p := ⟨gb491, _, none⟩) NB490_491.out _).trans (((cell_far (p := ⟨gb491, _, none⟩) NB490_491.out _).trans (hHeld.2))))⟩ (fun hHeld => ?_)
  clear hK K
  refine done_ (done_of HT_.out (by kernel_rfl)) ?_
  try go_wp2
  refine bodyPost_ret (results_cell_row rfl _ _ gb491 26 #[.int .u64 ji4, .int .u64 ji6] (0, 0) _ rfl (by (with_reducible repeat (first | apply bN_ | apply bD_ | apply bA_)); refine blk_put (cs := #[.int .u64 ji4, .int .u64 0]) ?_ 1 _ rfl; (with_reducible repeat (first | apply bN_ | apply bD_ | apply bA_)); refine blk_put (cs := #[.int .u64 0, .int .u64 0]) ?_ 0 _ rfl; exact bk_) Try.underlying26 rfl (by kernel_rfl)) rfl ?_
  exact ⟨by first | rfl | (simp [errW_none, errW_some] <;> rfl) | (simp only [← hji4, ← hji6]; first | rfl | (simp [errW_none, errW_some] <;> rfl)) | (simp [*, errW_none, errW_some] <;> rfl), bz_⟩
 ·rw [if_neg c3] at H
  exact absurd H (by simp)

/-! ### span_UCut: function 48 -/
def span_UCut.f (a0_0 : Int) (a0_1 : Int) : Option (Int × Int) := if (a0_0 / 4294967296) = (a0_1 / 4294967296) then (some (Go.bits .and .u64 a0_0 4294967295, Go.bits .and .u64 a0_1 4294967295)) else (some (0, 4294967295))
set_option maxHeartbeats 8000000 in
set_option maxRecDepth 100000 in
theorem span_UCut.calls (a0_0 : Int) (a0_1 : Int) (r1 : Int) (r2 : Int) (w : World) (h : span_UCut.f a0_0 a0_1 = some (r1, r2)) :
 Calls Try.prog 48 #[.agg #[.int .u64 a0_0, .int .u64 a0_1]] w fun e w' => e = .returned (.agg #[.int .u64 r1, .int .u64 r2]) ∧ Below w.heap.size w w' := by
 have hu26 := Try.underlying26
 have HB := Aside0.mk (Below.refl w.heap.size w)
 have H : (if (a0_0 / 4294967296) = (a0_1 / 4294967296) then (some (Go.bits .and .u64 a0_0 4294967295, Go.bits .and .u64 a0_1 4294967295)) else (some (0, 4294967295))) = some (r1, r2) := h
 clear h
 by_cases c2 : (a0_0 / 4294967296) = (a0_1 / 4294967296)
 ·rw [if_pos c2] at H
  have c2b0 : ((a0_0 / 4294967296) == (a0_1 / 4294967296)) = true := beq_iff_eq.mpr c2
  have c2b1 : ((a0_0 / 4294967296) != (a0_1 / 4294967296)) = false := bne_eq_false_iff_eq.mpr c2
  clear c2
  simp only [Option.some.injEq, Prod.mk.injEq] at H
  obtain ⟨rfl, rfl⟩ := H
  go_enter Try.func48, Try.ntmps48
  go_wp2_with (first | ((with_reducible refine gate_dst (N := 1) rfl ?_); refine bx_ 1 #[.int .u64 a0_0, .int .u64 a0_1] 26 ?_; intro gb492 hg w3 BK492 hb; have GW492 := bg_ hg; have GE492 := GW492; replace HB := bl_ hb; clear hb hg) | ((with_reducible refine gate_dst (N := 2) rfl ?_); refine bx_ 2 #[.int .u64 0, .int .u64 0] 26 ?_; intro gb493 hg w4 BK493 hb; have GW493 := bg_ hg; have GE493 := GW493; have NB492_493 := bm_ hg BK492; have NB493_492 := bn_ hg BK492; replace BK492 := bb_ hb BK492; replace HB := bl_ hb; clear hb hg; have hnb5 := NB492_493.out; have hnc5 := NB493_492.out; have hcz6_0 := c0_ BK492; have hcz6_1 := c1_ BK492; have hfz6_0 := fz_ BK492 0; have hfz6_1 := fz_ BK492 1; have hcz7_0 := c0_ BK493; have hcz7_1 := c1_ BK493; have hfz7_0 := fz_ BK493 0; have hfz7_1 := fz_ BK493 1))
  refine bodyPost_ret (results_cell_row rfl _ _ gb493 26 #[.int .u64 (Go.bits .and .u64 a0_0 4294967295), .int .u64 (Go.bits .and .u64 a0_1 4294967295)] (0, 0) _ rfl (by (with_reducible repeat (first | apply bN_ | apply bD_ | apply bA_)); refine blk_put (cs := #[.int .u64 (Go.bits .and .u64 a0_0 4294967295), .int .u64 0]) ?_ 1 _ rfl; (with_reducible repeat (first | apply bN_ | apply bD_ | apply bA_)); refine blk_put (cs := #[.int .u64 0, .int .u64 0]) ?_ 0 _ rfl; exact bk_) Try.underlying26 rfl (by kernel_rfl)) rfl ?_
  exact ⟨vv_, bz_⟩
 ·rw [if_neg c2] at H
  have c2b0 : ((a0_0 / 4294967296) == (a0_1 / 4294967296)) = false := beq_eq_false_iff_ne.mpr c2
  have c2b1 : ((a0_0 / 4294967296) != (a0_1 / 4294967296)) = true := bne_iff_ne.mpr c2
  simp only [Option.some.injEq, Prod.mk.injEq] at H
  obtain ⟨rfl, rfl⟩ := H
  go_enter Try.func48, Try.ntmps48
  go_wp2_with (first | ((with_reducible refine gate_dst (N := 1) rfl ?_); refine bx_ 1 #[.int .u64 a0_0, .int .u64 a0_1] 26 ?_; intro gb492 hg w8 BK492 hb; have GW492 := bg_ hg; have GE492 := GW492; replace HB := bl_ hb; clear hb hg) | ((with_reducible refine gate_dst (N := 2) rfl ?_); refine bx_ 2 #[.int .u64 0, .int .u64 0] 26 ?_; intro gb493 hg w9 BK493 hb; have GW493 := bg_ hg; have GE493 := GW493; have NB492_493 := bm_ hg BK492; have NB493_492 := bn_ hg BK492; replace BK492 := bb_ hb BK492; replace HB := bl_ hb; clear hb hg; have hnb10 := NB492_493.out; have hnc10 := NB493_492.out; have hcz11_0 := c0_ BK492; have hcz11_1 := c1_ BK492; have hfz11_0 := fz_ BK492 0; have hfz11_1 := fz_ BK492 1; have hcz12_0 := c0_ BK493; have hcz12_1 := c1_ BK493; have hfz12_0 := fz_ BK493 0; have hfz12_1 := fz_ BK493 1))
  refine bodyPost_ret (results_cell_row rfl _ _ gb493 26 #[.int .u64 0, .int .u64 4294967295] (0, 0) _ rfl (by (with_reducible repeat (first | apply bN_ | apply bD_ | apply bA_)); refine blk_put (cs := #[.int .u64 0, .int .u64 0]) ?_ 1 _ rfl; (with_reducible repeat (first | apply bN_ | apply bD_ | apply bA_)); refine blk_put (cs := #[.int .u64 0, .int .u64 0]) ?_ 0 _ rfl; exact bk_) Try.underlying26 rfl (by kernel_rfl)) rfl ?_
  exact ⟨vv_, bz_⟩

/-! ### span_ToS: function 49 -/
def span_ToS.f (a0_0 : Int) (a0_1 : Int) : Option (Int × Int) := if (a0_0 / 9223372036854775808) = (a0_1 / 9223372036854775808) then (some (wrap64 (a0_0), wrap64 (a0_1))) else ((span_SAll.f).bind fun bt496 => (some (bt496.1, bt496.2)))
set_option maxHeartbeats 8000000 in
set_option maxRecDepth 100000 in
theorem span_ToS.calls (a0_0 : Int) (a0_1 : Int) (r1 : Int) (r2 : Int) (w : World) (h : span_ToS.f a0_0 a0_1 = some (r1, r2)) :
 Calls Try.prog 49 #[.agg #[.int .u64 a0_0, .int .u64 a0_1]] w fun e w' => e = .returned (.agg #[.int .i64 r1, .int .i64 r2]) ∧ Below w.heap.size w w' := by
 have hu26 := Try.underlying26
 have hu28 := Try.underlying28
 have HB := Aside0.mk (Below.refl w.heap.size w)
 have H : (if (a0_0 / 9223372036854775808) = (a0_1 / 9223372036854775808) then (some (wrap64 (a0_0), wrap64 (a0_1))) else ((span_SAll.f).bind fun bt496 => (some (bt496.1, bt496.2)))) = some (r1, r2) := h
 clear h
 by_cases c2 : (a0_0 / 9223372036854775808) = (a0_1 / 9223372036854775808)
 ·rw [if_pos c2] at H
  have c2b0 : ((a0_0 / 9223372036854775808) == (a0_1 / 9223372036854775808)) = true := beq_iff_eq.mpr c2
  have c2b1 : ((a0_0 / 9223372036854775808) != (a0_1 / 9223372036854775808)) = false := bne_eq_false_iff_eq.mpr c2
  clear c2
  simp only [Option.some.injEq, Prod.mk.injEq] at H
  obtain ⟨rfl, rfl⟩ := H
  go_enter Try.func49, Try.ntmps49
  go_wp2_with (first | ((with_reducible refine gate_dst (N := 1) rfl ?_); refine bx_ 1 #[.int .u64 a0_0, .int .u64 a0_1] 26 ?_; intro gb494 hg w3 BK494 hb; have GW494 := bg_ hg; have GE494 := GW494; replace HB := bl_ hb; clear hb hg) | ((with_reducible refine gate_dst (N := 2) rfl ?_); refine bx_ 2 #[.int .i64 0, .int .i64 0] 28 ?_; intro gb495 hg w4 BK495 hb; have GW495 := bg_ hg; have GE495 := GW495; have NB494_495 := bm_ hg BK494; have NB495_494 := bn_ hg BK494; replace BK494 := bb_ hb BK494; replace HB := bl_ hb; clear hb hg; have hnb5 := NB494_495.out; have hnc5 := NB495_494.out; have hcz6_0 := c0_ BK494; have hcz6_1 := c1_ BK494; have hfz6_0 := fz_ BK494 0; have hfz6_1 := fz_ BK494 1; have hcz7_0 := c0_ BK495; have hcz7_1 := c1_ BK495; have hfz7_0 := fz_ BK495 0; have hfz7_1 := fz_ BK495 1))
  refine bodyPost_ret (results_cell_row rfl _ _ gb495 28 #[.int .i64 (wrap64 (a0_0)), .int .i64 (wrap64 (a0_1))] (0, 0) _ rfl (by (with_reducible repeat (first | apply bN_ | apply bD_ | apply bA_)); refine blk_put (cs := #[.int .i64 (wrap64 (a0_0)), .int .i64 0]) ?_ 1 _ rfl; (with_reducible repeat (first | apply bN_ | apply bD_ | apply bA_)); refine blk_put (cs := #[.int .i64 0, .int .i64 0]) ?_ 0 _ rfl; exact bk_) Try.underlying28 rfl (by kernel_rfl)) rfl ?_
  exact ⟨vv_, bz_⟩
 ·rw [if_neg c2] at H
  have c2b0 : ((a0_0 / 9223372036854775808) == (a0_1 / 9223372036854775808)) = false := beq_eq_false_iff_ne.mpr c2
  have c2b1 : ((a0_0 / 9223372036854775808) != (a0_1 / 9223372036854775808)) = true := bne_iff_ne.mpr c2
  replace H := Option.bind_eq_some_iff.mp H
  obtain ⟨⟨t496, t497⟩, A80, H⟩ := H
  replace H : (some (t496, t497)) = some (r1, r2) := H
  have A8 := Aside0.mk A80
  clear A80
  simp only [Option.some.injEq, Prod.mk.injEq] at H
  obtain ⟨rfl, rfl⟩ := H
  go_enter Try.func49, Try.ntmps49
  go_wp2_with (first | ((with_reducible refine gate_dst (N := 1) rfl ?_); refine bx_ 1 #[.int .u64 a0_0, .int .u64 a0_1] 26 ?_; intro gb494 hg w9 BK494 hb; have GW494 := bg_ hg; have GE494 := GW494; replace HB := bl_ hb; clear hb hg) | ((with_reducible refine gate_dst (N := 2) rfl ?_); refine bx_ 2 #[.int .i64 0, .int .i64 0] 28 ?_; intro gb495 hg w10 BK495 hb; have GW495 := bg_ hg; have GE495 := GW495; have NB494_495 := bm_ hg BK494; have NB495_494 := bn_ hg BK494; replace BK494 := bb_ hb BK494; replace HB := bl_ hb; clear hb hg; have hnb11 := NB494_495.out; have hnc11 := NB495_494.out; have hcz12_0 := c0_ BK494; have hcz12_1 := c1_ BK494; have hfz12_0 := fz_ BK494 0; have hfz12_1 := fz_ BK494 1) | ((with_reducible refine gate_callee (f := 38) rfl ?_); refine goesL_ (some 10) rfl rfl Try.func38 (by kernel_rfl) rfl #[] rfl (by (try simp only [List.map_toArray, List.map_cons, List.map_nil]); first | done | rfl) ?_; (with_reducible refine (span_SAll.calls  t496 t497 _ A8.out).mono ?_); rintro e w13 ⟨rfl, hb⟩; refine ⟨_, rfl, ?_⟩; replace BK494 := bb_ hb BK494; replace BK495 := bb_ hb BK495; replace HB := bl_ hb; (try clear hb); (try clear hb2); (try clear hk); (try clear hi); have hcz14_0 := c0_ BK495; have hcz14_1 := c1_ BK495; have hfz14_0 := fz_ BK495 0; have hfz14_1 := fz_ BK495 1))
  refine bodyPost_ret (results_cell_row rfl _ _ gb495 28 #[.int .i64 t496, .int .i64 t497] (0, 0) _ rfl (by (with_reducible repeat (first | apply bN_ | apply bD_ | apply bA_)); refine blk_put (cs := #[.int .i64 t496, .int .i64 0]) ?_ 1 _ rfl; (with_reducible repeat (first | apply bN_ | apply bD_ | apply bA_)); refine blk_put (cs := #[.int .i64 0, .int .i64 0]) ?_ 0 _ rfl; exact bk_) Try.underlying28 rfl (by kernel_rfl)) rfl ?_
  exact ⟨vv_, bz_⟩

/-! ### span_ToT: function 50 -/
def span_ToT.f (k : Nat) (a0_0 : Int) (a0_1 : Int) : Option (Int × Int) := (span_below.f k (Go.bits .xor .u64 a0_0 a0_1)).bind fun t500 => (some (Go.bits .andNot .u64 a0_0 t500, t500))
theorem span_ToT.mono : ∀ a0 a1 k, LeO (span_ToT.f k a0 a1) (span_ToT.f (k + 1) a0 a1) := by
 intro a0 a1 k
 unfold span_ToT.f
 repeat' first
  | (with_reducible exact span_below.mono _ _)
  | (with_reducible exact LeO.refl _)
  | (with_reducible exact LeO.none _)
  | (with_reducible refine LeO.ite ?_ ?_)
  | (with_reducible refine LeO.bind ?_ (fun _ => ?_))
  | exact span_below.mono _ _
  | exact LeO.none _
  | refine LeO.ite ?_ ?_
  | refine LeO.bind ?_ (fun _ => ?_)
set_option maxHeartbeats 8000000 in
set_option maxRecDepth 100000 in
theorem span_ToT.calls (k : Nat) (a0_0 : Int) (a0_1 : Int) (r1 : Int) (r2 : Int) (w : World) (h : span_ToT.f k a0_0 a0_1 = some (r1, r2)) :
 Calls Try.prog 50 #[.agg #[.int .u64 a0_0, .int .u64 a0_1]] w fun e w' => e = .returned (.agg #[.int .u64 r1, .int .u64 r2]) ∧ Below w.heap.size w w' := by
 have hu26 := Try.underlying26
 have hu24 := Try.underlying24
 have HB := Aside0.mk (Below.refl w.heap.size w)
 have H : ((span_below.f k (Go.bits .xor .u64 a0_0 a0_1)).bind fun t500 => (some (Go.bits .andNot .u64 a0_0 t500, t500))) = some (r1, r2) := h
 clear h
 replace H := Option.bind_eq_some_iff.mp H
 obtain ⟨t500, A20, H⟩ := H
 replace H : (some (Go.bits .andNot .u64 a0_0 t500, t500)) = some (r1, r2) := H
 have A2 := Aside0.mk A20
 clear A20
 simp only [Option.some.injEq, Prod.mk.injEq] at H
 obtain ⟨rfl, rfl⟩ := H
 go_enter Try.func50, Try.ntmps50
 go_wp2_with (first | ((with_reducible refine gate_dst (N := 1) rfl ?_); refine bx_ 1 #[.int .u64 a0_0, .int .u64 a0_1] 26 ?_; intro gb498 hg w3 BK498 hb; have GW498 := bg_ hg; have GE498 := GW498; replace HB := bl_ hb; clear hb hg) | ((with_reducible refine gate_dst (N := 2) rfl ?_); refine bx_ 2 #[.int .u64 0, .int .u64 0] 24 ?_; intro gb499 hg w4 BK499 hb; have GW499 := bg_ hg; have GE499 := GW499; have NB498_499 := bm_ hg BK498; have NB499_498 := bn_ hg BK498; replace BK498 := bb_ hb BK498; replace HB := bl_ hb; clear hb hg; have hnb5 := NB498_499.out; have hnc5 := NB499_498.out; have hcz6_0 := c0_ BK498; have hcz6_1 := c1_ BK498; have hfz6_0 := fz_ BK498 0; have hfz6_1 := fz_ BK498 1) | ((with_reducible refine gate_callee (f := 90) rfl ?_); refine goesL_ (some 9) rfl rfl Try.func90 (by kernel_rfl) rfl #[.int .u64 (Go.bits .xor .u64 a0_0 a0_1)] rfl (by (try simp only [List.map_toArray, List.map_cons, List.map_nil]); first | done | rfl) ?_; (with_reducible refine (span_below.calls k (Go.bits .xor .u64 a0_0 a0_1) t500 _ A2.out).mono ?_); rintro e w' ⟨rfl, ⟨nd, rfl⟩⟩; refine ⟨_, rfl, ?_⟩; (try (rw [drewN_self w4]; generalize hq_ : World.drewN w4 _ = w4; have n0_ : Aside0 (w4.heap[gb498]? = some (.cells #[.int .u64 a0_0, .int .u64 a0_1] 26 (0, 0))) := ⟨by rw [← hq_]; exact (by exact bk_)⟩; have n1_ : Aside0 (w4.heap[gb499]? = some (.cells #[.int .u64 0, .int .u64 0] 24 (0, 0))) := ⟨by rw [← hq_]; exact (by exact bk_)⟩; have n2_ : Aside0 (Below w.heap.size w w4) := ⟨by rw [← hq_]; exact (by repeat (first | (with_reducible first | exact HB.out | apply lA_ | apply lN_ | apply lD_ | refine lS_ ?_ GE498.out | refine lS_ ?_ GE499.out) | exact HB.out))⟩; clear BK498 BK499 HB hq_; have BK498 := n0_; have BK499 := n1_; have HB := n2_; clear n0_ n1_ n2_)); have hcygb498_0 := c0_ BK498; have hfygb498_0 := fz_ BK498 0; have hcygb498_1 := c1_ BK498; have hfygb498_1 := fz_ BK498 1; have hcz7_0 := c0_ BK499; have hcz7_1 := c1_ BK499; have hfz7_0 := fz_ BK499 0; have hfz7_1 := fz_ BK499 1))
 refine bodyPost_ret (results_cell_row rfl _ _ gb499 24 #[.int .u64 (Go.bits .andNot .u64 a0_0 t500), .int .u64 t500] (0, 0) _ rfl (by (with_reducible repeat (first | apply bN_ | apply bD_ | apply bA_)); refine blk_put (cs := #[.int .u64 (Go.bits .andNot .u64 a0_0 t500), .int .u64 0]) ?_ 1 _ rfl; (with_reducible repeat (first | apply bN_ | apply bD_ | apply bA_)); refine blk_put (cs := #[.int .u64 0, .int .u64 0]) ?_ 0 _ rfl; exact bk_) Try.underlying24 rfl (by kernel_rfl)) rfl ?_
 exact ⟨vv_, bz_⟩

/-! ### span_UDiv: function 51 -/
def span_UDiv.f (a0_0 : Int) (a0_1 : Int) (a1_0 : Int) (a1_1 : Int) : Option (Int × Int) := (span_alone.f a1_0 a1_1).bind fun t504 => (if t504 = true then (if a1_0 = 0 then (some (0, a0_1)) else (some (IntKind.u64.wrap (Int.tdiv a0_0 a1_0), IntKind.u64.wrap (Int.tdiv a0_1 a1_0)))) else (some (0, a0_1)))
def span_UDiv.T2 : Bool × List (List Nat × List Nat) := (true, [([], []), ([0], [0]), ([], []), ([2], [2]), ([1, 3], [1, 3]), ([], []), ([5], [5]), ([], []), ([7], [7]), ([6, 8], [6, 8]), ([4, 9], [4, 9]), ([10, 0, 1, 2, 3, 4, 5, 6, 7, 8, 9, 10], [10])])
def span_UDiv.B2 : List Nat := [0, 1, 0, 4, 15, 0, 32, 0, 128, 480, 1023, 2047]
theorem span_UDiv.tab2 : rtab .any (opsOf Try.f51 2) = span_UDiv.T2 := by kernel_rfl
theorem span_UDiv.bits2 : waitsOk span_UDiv.T2.2 span_UDiv.B2 = true := by kernel_rfl
set_option maxHeartbeats 8000000 in
set_option maxRecDepth 100000 in
theorem span_UDiv.calls (a0_0 : Int) (a0_1 : Int) (a1_0 : Int) (a1_1 : Int) (r1 : Int) (r2 : Int) (w : World) (h : span_UDiv.f a0_0 a0_1 a1_0 a1_1 = some (r1, r2)) :
 Calls Try.prog 51 #[.agg #[.int .u64 a0_0, .int .u64 a0_1], .agg #[.int .u64 a1_0, .int .u64 a1_1]] w fun e w' => e = .returned (.agg #[.int .u64 r1, .int .u64 r2]) ∧ Below w.heap.size w w' := by
 have hu26 := Try.underlying26
 have HB := Aside0.mk (Below.refl w.heap.size w)
 have H : ((span_alone.f a1_0 a1_1).bind fun t504 => (if t504 = true then (if a1_0 = 0 then (some (0, a0_1)) else (some (IntKind.u64.wrap (Int.tdiv a0_0 a1_0), IntKind.u64.wrap (Int.tdiv a0_1 a1_0)))) else (some (0, a0_1)))) = some (r1, r2) := h
 clear h
 replace H := Option.bind_eq_some_iff.mp H
 obtain ⟨t504, A30, H⟩ := H
 replace H : (if t504 = true then (if a1_0 = 0 then (some (0, a0_1)) else (some (IntKind.u64.wrap (Int.tdiv a0_0 a1_0), IntKind.u64.wrap (Int.tdiv a0_1 a1_0)))) else (some (0, a0_1))) = some (r1, r2) := H
 have A3 := Aside0.mk A30
 clear A30
 by_cases c4 : t504 = true
 ·subst c4
  have H1 : (if a1_0 = 0 then (some (0, a0_1)) else (some (IntKind.u64.wrap (Int.tdiv a0_0 a1_0), IntKind.u64.wrap (Int.tdiv a0_1 a1_0)))) = some (r1, r2) := by rw [if_pos rfl] at H; exact H
  clear H
  have H := H1
  clear H1
  by_cases c5 : a1_0 = 0
  ·rw [if_pos c5] at H
   have c5b0 : (a1_0 == 0) = true := beq_iff_eq.mpr c5
   have c5b1 : (a1_0 != 0) = false := bne_eq_false_iff_eq.mpr c5
   clear c5
   simp only [Option.some.injEq, Prod.mk.injEq] at H
   obtain ⟨rfl, rfl⟩ := H
   go_enter Try.func51, Try.ntmps51
   go_wp2_with (first | ((with_reducible refine gate_dst (N := 2) rfl ?_); refine bx_ 2 #[.int .u64 a0_0, .int .u64 a0_1] 26 ?_; intro gb501 hg w6 BK501 hb; have GW501 := bg_ hg; have GE501 := GW501; replace HB := bl_ hb; clear hb hg) | ((with_reducible refine gate_dst (N := 3) rfl ?_); refine bx_ 3 #[.int .u64 a1_0, .int .u64 a1_1] 26 ?_; intro gb502 hg w7 BK502 hb; have GW502 := bg_ hg; have GE502 := GW502; have NB501_502 := bm_ hg BK501; have NB502_501 := bn_ hg BK501; replace BK501 := bb_ hb BK501; replace HB := bl_ hb; clear hb hg) | ((with_reducible refine gate_dst (N := 4) rfl ?_); refine bx_ 4 #[.int .u64 0, .int .u64 0] 26 ?_; intro gb503 hg w8 BK503 hb; have GW503 := bg_ hg; have GE503 := GW503; have NB501_503 := bm_ hg BK501; have NB503_501 := bn_ hg BK501; have NB502_503 := bm_ hg BK502; have NB503_502 := bn_ hg BK502; replace BK501 := bb_ hb BK501; replace BK502 := bb_ hb BK502; replace HB := bl_ hb; clear hb hg; have hnb9 := NB502_501.out; have hnc9 := NB501_502.out; have hnb10 := NB502_503.out; have hnc10 := NB503_502.out; have hcz11_0 := c0_ BK502; have hcz11_1 := c1_ BK502; have hfz11_0 := fz_ BK502 0; have hfz11_1 := fz_ BK502 1) | ((with_reducible refine gate_callee (f := 89) rfl ?_); refine goesL_ (some 6) rfl rfl Try.func89 (by kernel_rfl) rfl #[.agg #[.int .u64 a1_0, .int .u64 a1_1]] rfl (by (try simp only [List.map_toArray, List.map_cons, List.map_nil]); first | done | rfl) ?_; (with_reducible refine (span_alone.calls a1_0 a1_1 true _ A3.out).mono ?_); rintro e w12 ⟨rfl, hb⟩; refine ⟨_, rfl, ?_⟩; replace BK501 := bb_ hb BK501; replace BK502 := bb_ hb BK502; replace BK503 := bb_ hb BK503; replace HB := bl_ hb; (try clear hb); (try clear hb2); (try clear hk); (try clear hi); have hcz13_0 := c0_ BK502; have hcz13_1 := c1_ BK502; have hfz13_0 := fz_ BK502 0; have hfz13_1 := fz_ BK502 1; have hnb14 := NB501_503.out; have hnc14 := NB503_501.out; have hcz15_0 := c0_ BK501; have hcz15_1 := c1_ BK501; have hfz15_0 := fz_ BK501 0; have hfz15_1 := fz_ BK501 1; have hcz16_0 := c0_ BK503; have hcz16_1 := c1_ BK503; have hfz16_0 := fz_ BK503 0; have hfz16_1 := fz_ BK503 1))
   refine bodyPost_ret (results_cell_row rfl _ _ gb503 26 #[.int .u64 0, .int .u64 a0_1] (0, 0) _ rfl (by (with_reducible repeat (first | apply bN_ | apply bD_ | apply bA_)); refine blk_put (cs := #[.int .u64 0, .int .u64 0]) ?_ 1 _ rfl; (with_reducible repeat (first | apply bN_ | apply bD_ | apply bA_)); refine blk_put (cs := #[.int .u64 0, .int .u64 0]) ?_ 0 _ rfl; exact bk_) Try.underlying26 rfl (by kernel_rfl)) rfl ?_
   exact ⟨vv_, bz_⟩
  ·rw [if_neg c5] at H
   have c5b0 : (a1_0 == 0) = false := beq_eq_false_iff_ne.mpr c5
   have c5b1 : (a1_0 != 0) = true := bne_iff_ne.mpr c5
   simp only [Option.some.injEq, Prod.mk.injEq] at H
   obtain ⟨rfl, rfl⟩ := H
   go_enter Try.func51, Try.ntmps51
   try go_wp2_with (first | ((with_reducible refine gate_dst (N := 2) rfl ?_); refine bx_ 2 #[.int .u64 a0_0, .int .u64 a0_1] 26 ?_; intro gb501 hg w17 BK501 hb; have GW501 := bg_ hg; have GE501 := GW501; replace HB := bl_ hb; clear hb hg) | ((with_reducible refine gate_dst (N := 3) rfl ?_); refine bx_ 3 #[.int .u64 a1_0, .int .u64 a1_1] 26 ?_; intro gb502 hg w18 BK502 hb; have GW502 := bg_ hg; have GE502 := GW502; have NB501_502 := bm_ hg BK501; have NB502_501 := bn_ hg BK501; replace BK501 := bb_ hb BK501; replace HB := bl_ hb; clear hb hg) | ((with_reducible refine gate_dst (N := 4) rfl ?_); refine bx_ 4 #[.int .u64 0, .int .u64 0] 26 ?_; intro gb503 hg w19 BK503 hb; have GW503 := bg_ hg; have GE503 := GW503; have NB501_503 := bm_ hg BK501; have NB503_501 := bn_ hg BK501; have NB502_503 := bm_ hg BK502; have NB503_502 := bn_ hg BK502; replace BK501 := bb_ hb BK501; replace BK502 := bb_ hb BK502; replace HB := bl_ hb; clear hb hg; have hnb20 := NB502_501.out; have hnc20 := NB501_502.out; have hnb21 := NB502_503.out; have hnc21 := NB503_502.out; have hcz22_0 := c0_ BK502; have hcz22_1 := c1_ BK502; have hfz22_0 := fz_ BK502 0; have hfz22_1 := fz_ BK502 1) | ((with_reducible refine gate_callee (f := 89) rfl ?_); refine goesL_ (some 6) rfl rfl Try.func89 (by kernel_rfl) rfl #[.agg #[.int .u64 a1_0, .int .u64 a1_1]] rfl (by (try simp only [List.map_toArray, List.map_cons, List.map_nil]); first | done | rfl) ?_; (with_reducible refine (span_alone.calls a1_0 a1_1 true _ A3.out).mono ?_); rintro e w23 ⟨rfl, hb⟩; refine ⟨_, rfl, ?_⟩; replace BK501 := bb_ hb BK501; replace BK502 := bb_ hb BK502; replace BK503 := bb_ hb BK503; replace HB := bl_ hb; (try clear hb); (try clear hb2); (try clear hk); (try clear hi); have hcz24_0 := c0_ BK502; have hcz24_1 := c1_ BK502; have hfz24_0 := fz_ BK502 0; have hfz24_1 := fz_ BK502 1))
   replace BK501 := Aside0.mk (blk_drew BK501.out)
   replace BK502 := Aside0.mk (blk_drew BK502.out)
   replace BK503 := Aside0.mk (blk_drew BK503.out)
   replace HB := Aside0.mk (below_drew1 HB.out)
   refine start_ (n := 12) (S := fun w' => w'.cell? ⟨gb501, 0, none⟩ = some (.int .u64 a0_0) ∧ w'.cell? ⟨gb501, 1, none⟩ = some (.int .u64 a0_1) ∧ w'.cell? ⟨gb502, 0, none⟩ = some (.int .u64 a1_0) ∧ w'.cell? ⟨gb502, 1, none⟩ = some (.int .u64 a1_1)) (ds := []) #[n_,n_,n_,n_,n_,n_,n_,n_,n_,n_,n_,n_] (by kernel_rfl) rfl rfl ⟨c0_ BK501, c1_ BK501, c0_ BK502, c1_ BK502⟩ (fun hHeld => ?_); refine with_tabW span_UDiv.tab2 span_UDiv.bits2 (fun HT_ HW_ => ?_)
   generalize w23.drew = w25 at BK501 BK502 BK503 HB hHeld ⊢
   refine pq_ 0 12 #[y_,n_,n_,n_,n_,n_,n_,n_,n_,n_,n_,n_] ?_
   refine pq_ 2 14 #[y_,n_,y_,n_,n_,n_,n_,n_,n_,n_,n_,n_] ?_
   refine pq_ 5 17 #[y_,n_,y_,n_,n_,y_,n_,n_,n_,n_,n_,n_] ?_
   refine pq_ 7 19 #[y_,n_,y_,n_,n_,y_,n_,y_,n_,n_,n_,n_] ?_
   refine tq1_ 1 13 #[y_,y_,y_,n_,n_,y_,n_,y_,n_,n_,n_,n_] hHeld ?_
   refine tq1_ 3 15 #[y_,y_,y_,y_,n_,y_,n_,y_,n_,n_,n_,n_] hHeld ?_
   refine pq_ 4 16 #[y_,y_,y_,y_,y_,y_,n_,y_,n_,n_,n_,n_] ?_
   refine tq1_ 6 18 #[y_,y_,y_,y_,y_,y_,y_,y_,n_,n_,n_,n_] hHeld ?_
   refine tq1_ 8 20 #[y_,y_,y_,y_,y_,y_,y_,y_,y_,n_,n_,n_] hHeld ?_
   refine pq_ 9 21 #[y_,y_,y_,y_,y_,y_,y_,y_,y_,y_,n_,n_] ?_
   refine pq_ 10 22 #[y_,y_,y_,y_,y_,y_,y_,y_,y_,y_,y_,n_] ?_
   refine one_ (i := 11) (N := none) #[y_,y_,y_,y_,y_,y_,y_,y_,y_,y_,y_,y_] rfl rfl (one_of HT_.out (by kernel_rfl)) (by decide) (fun K hK => ?_)
   have hs26 := c0_ BK503
   have hfs26 := fz_ BK503 0
   have hns26_0 := NB501_503.out
   have hns26_1 := NB502_503.out
   have hms26_0 := NB503_501.out
   have hms26_1 := NB503_502.out
   have hs27 := c1_ BK503
   have hfs27 := fz_ BK503 1
   have hns27_0 := NB501_503.out
   have hns27_1 := NB502_503.out
   have hms27_0 := NB503_501.out
   have hms27_1 := NB503_502.out
   refine skip_ (w1 := ?_) (by rfl) rfl ?_ ?_
   rotate_left
   ·go_simp
    rfl
   refine hK.out _ _ ⟨((cell_far (p := ⟨gb503, _, none⟩) NB501_503.out _).trans (((cell_far (p := ⟨gb503, _, none⟩) NB501_503.out _).trans (hHeld.1)))), ((cell_far (p := ⟨gb503, _, none⟩) NB501_503.out _).trans (((cell_far (p := ⟨gb503, _, none⟩) NB501_503.out _).trans (hHeld.2.1)))), ((cell_far (p := ⟨gb503, _, none⟩) NB502_503.out _).trans (((cell_far (p := ⟨gb503, _, none⟩) NB502_503.out _).trans (hHeld.2.2.1)))), ((cell_far (p := ⟨gb503, _, none⟩) NB502_503.out _).trans (((cell_far (p := ⟨gb503, _, none⟩) NB502_503.out _).trans (hHeld.2.2.2))))⟩ (fun hHeld => ?_)
   clear hK K
   refine done_ (done_of HT_.out (by kernel_rfl)) ?_
   try go_wp2
   refine bodyPost_ret (results_cell_row rfl _ _ gb503 26 #[.int .u64 (IntKind.u64.wrap (Int.tdiv a0_0 a1_0)), .int .u64 (IntKind.u64.wrap (Int.tdiv a0_1 a1_0))] (0, 0) _ rfl (by (with_reducible repeat (first | apply bN_ | apply bD_ | apply bA_)); refine blk_put (cs := #[.int .u64 (IntKind.u64.wrap (Int.tdiv a0_0 a1_0)), .int .u64 0]) ?_ 1 _ rfl; (with_reducible repeat (first | apply bN_ | apply bD_ | apply bA_)); refine blk_put (cs := #[.int .u64 0, .int .u64 0]) ?_ 0 _ rfl; exact bk_) Try.underlying26 rfl (by kernel_rfl)) rfl ?_
   exact ⟨vv_, bz_⟩
 ·replace c4 := Bool.eq_false_iff.mpr c4
  subst c4
  have H1 : (some (0, a0_1)) = some (r1, r2) := by rw [if_neg (show ¬ (false = true) by decide)] at H; exact H
  clear H
  have H := H1
  clear H1
  simp only [Option.some.injEq, Prod.mk.injEq] at H
  obtain ⟨rfl, rfl⟩ := H
  go_enter Try.func51, Try.ntmps51
  go_wp2_with (first | ((with_reducible refine gate_dst (N := 2) rfl ?_); refine bx_ 2 #[.int .u64 a0_0, .int .u64 a0_1] 26 ?_; intro gb501 hg w28 BK501 hb; have GW501 := bg_ hg; have GE501 := GW501; replace HB := bl_ hb; clear hb hg) | ((with_reducible refine gate_dst (N := 3) rfl ?_); refine bx_ 3 #[.int .u64 a1_0, .int .u64 a1_1] 26 ?_; intro gb502 hg w29 BK502 hb; have GW502 := bg_ hg; have GE502 := GW502; have NB501_502 := bm_ hg BK501; have NB502_501 := bn_ hg BK501; replace BK501 := bb_ hb BK501; replace HB := bl_ hb; clear hb hg) | ((with_reducible refine gate_dst (N := 4) rfl ?_); refine bx_ 4 #[.int .u64 0, .int .u64 0] 26 ?_; intro gb503 hg w30 BK503 hb; have GW503 := bg_ hg; have GE503 := GW503; have NB501_503 := bm_ hg BK501; have NB503_501 := bn_ hg BK501; have NB502_503 := bm_ hg BK502; have NB503_502 := bn_ hg BK502; replace BK501 := bb_ hb BK501; replace BK502 := bb_ hb BK502; replace HB := bl_ hb; clear hb hg; have hnb31 := NB502_501.out; have hnc31 := NB501_502.out; have hnb32 := NB502_503.out; have hnc32 := NB503_502.out; have hcz33_0 := c0_ BK502; have hcz33_1 := c1_ BK502; have hfz33_0 := fz_ BK502 0; have hfz33_1 := fz_ BK502 1) | ((with_reducible refine gate_callee (f := 89) rfl ?_); refine goesL_ (some 6) rfl rfl Try.func89 (by kernel_rfl) rfl #[.agg #[.int .u64 a1_0, .int .u64 a1_1]] rfl (by (try simp only [List.map_toArray, List.map_cons, List.map_nil]); first | done | rfl) ?_; (with_reducible refine (span_alone.calls a1_0 a1_1 false _ A3.out).mono ?_); rintro e w34 ⟨rfl, hb⟩; refine ⟨_, rfl, ?_⟩; replace BK501 := bb_ hb BK501; replace BK502 := bb_ hb BK502; replace BK503 := bb_ hb BK503; replace HB := bl_ hb; (try clear hb); (try clear hb2); (try clear hk); (try clear hi); have hnb35 := NB501_503.out; have hnc35 := NB503_501.out; have hcz36_0 := c0_ BK501; have hcz36_1 := c1_ BK501; have hfz36_0 := fz_ BK501 0; have hfz36_1 := fz_ BK501 1; have hcz37_0 := c0_ BK503; have hcz37_1 := c1_ BK503; have hfz37_0 := fz_ BK503 0; have hfz37_1 := fz_ BK503 1))
  refine bodyPost_ret (results_cell_row rfl _ _ gb503 26 #[.int .u64 0, .int .u64 a0_1] (0, 0) _ rfl (by (with_reducible repeat (first | apply bN_ | apply bD_ | apply bA_)); refine blk_put (cs := #[.int .u64 0, .int .u64 0]) ?_ 1 _ rfl; (with_reducible repeat (first | apply bN_ | apply bD_ | apply bA_)); refine blk_put (cs := #[.int .u64 0, .int .u64 0]) ?_ 0 _ rfl; exact bk_) Try.underlying26 rfl (by kernel_rfl)) rfl ?_
  exact ⟨vv_, bz_⟩

end Go.Proofs.Ytnephcecobocdaa.PA
