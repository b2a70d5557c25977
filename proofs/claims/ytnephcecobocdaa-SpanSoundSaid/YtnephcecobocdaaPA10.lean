-- PRINTED by print.py (a twelfth state) out of the translation. Not trusted: Lean checks it.
import Derived.Test.YtnephcecobocdaaPA0
import Derived.Test.YtnephcecobocdaaSq
import Derived.Test.YtnephcecobocdaaPA6
namespace Go.Proofs.Ytnephcecobocdaa.PA
open Go.RowKit Go.Proofs.YtnephcecobocdaaW.PrintWords Go.Proofs.YtnephcecobocdaaW.PrintLast Go.Proofs.YtnephcecobocdaaW.PrintMore
attribute [local go_sem] max2_int min2_int max_two min_two max_three min_three max_four min_four   -- for this text's walks alone
set_option linter.unusedVariables false
set_option linter.unusedSimpArgs false

/-! ### span_UMod: function 52 -/
def span_UMod.j0 : Nat → Bool → Int → Int → Int → Int → Option (Int × Int)
 | 0, _, _, _, _, _ => none
 | k + 1, x5, x506000, x506001, x507000, x507001 => if x5 = true then (some (0, x506001)) else (if x506001 < x507000 then (some (x506000, x506001)) else ((span_alone.f x506000 x506001).bind fun t509 => (if t509 = true then (if x507000 = 0 then (none) else ((span_UOf.f (Int.tmod x506000 x507000)).bind fun bt510 => (some (bt510.1, bt510.2)))) else (some (0, IntKind.u64.wrap (x507000 - 1))))))
def span_UMod.f (k : Nat) (a0_0 : Int) (a0_1 : Int) (a1_0 : Int) (a1_1 : Int) : Option (Int × Int) := (span_alone.f a1_0 a1_1).bind fun t508 => (if t508 = true then (span_UMod.j0 k (a1_0 == 0) a0_0 a0_1 a1_0 a1_1) else (span_UMod.j0 k true a0_0 a0_1 a1_0 a1_1))
theorem span_UMod.mono_l : ∀ k, (∀ y0 y1 y2 y3 y4, LeO (span_UMod.j0 k y0 y1 y2 y3 y4) (span_UMod.j0 (k + 1) y0 y1 y2 y3 y4))
 | 0 => fun _ _ _ _ _ r h => by simp [span_UMod.j0] at h
 | k + 1 => by
  have ih0 := span_UMod.mono_l k
  ·intro y0 y1 y2 y3 y4
   unfold span_UMod.j0
   repeat' first
   | (with_reducible exact ih0 _ _ _ _ _)
   | (with_reducible exact LeO.refl _)
   | (with_reducible exact LeO.none _)
   | (with_reducible refine LeO.ite ?_ ?_)
   | (with_reducible refine LeO.bind ?_ (fun _ => ?_))
   | exact ih0 _ _ _ _ _
   | exact LeO.none _
   | refine LeO.ite ?_ ?_
   | refine LeO.bind ?_ (fun _ => ?_)
theorem span_UMod.mono : ∀ a0 a1 a2 a3 k, LeO (span_UMod.f k a0 a1 a2 a3) (span_UMod.f (k + 1) a0 a1 a2 a3) := by
 intro a0 a1 a2 a3 k
 have ih0 := span_UMod.mono_l k
 unfold span_UMod.f
 repeat' first
  | (with_reducible exact ih0 _ _ _ _ _)
  | (with_reducible exact LeO.refl _)
  | (with_reducible exact LeO.none _)
  | (with_reducible refine LeO.ite ?_ ?_)
  | (with_reducible refine LeO.bind ?_ (fun _ => ?_))
  | exact ih0 _ _ _ _ _
  | exact LeO.none _
  | refine LeO.ite ?_ ?_
  | refine LeO.bind ?_ (fun _ => ?_)
set_option maxHeartbeats 8000000 in
set_option maxRecDepth 100000 in
theorem span_UMod.calls (k : Nat) (a0_0 : Int) (a0_1 : Int) (a1_0 : Int) (a1_1 : Int) (r1 : Int) (r2 : Int) (w : World) (h : span_UMod.f k a0_0 a0_1 a1_0 a1_1 = some (r1, r2)) :
 Calls Try.prog 52 #[.agg #[.int .u64 a0_0, .int .u64 a0_1], .agg #[.int .u64 a1_0, .int .u64 a1_1]] w fun e w' => e = .returned (.agg #[.int .u64 r1, .int .u64 r2]) ∧ Below w.heap.size w w' := by
 have hu26 := Try.underlying26
 have HB := Aside0.mk (Below.refl w.heap.size w)
 have H : ((span_alone.f a1_0 a1_1).bind fun t508 => (if t508 = true then (span_UMod.j0 k (a1_0 == 0) a0_0 a0_1 a1_0 a1_1) else (span_UMod.j0 k true a0_0 a0_1 a1_0 a1_1))) = some (r1, r2) := h
 clear h
 have HC3 := Aside0.mk H
 clear H
 go_enter Try.func52, Try.ntmps52
 go_upto_region 1 with (first | ((with_reducible refine gate_dst (N := 2) rfl ?_); refine bx_ 2 #[.int .u64 a0_0, .int .u64 a0_1] 26 ?_; intro gb505 hg w4 BK505 hb; have GW505 := bg_ hg; have GE505 := GW505; replace HB := bl_ hb; clear hb hg) | ((with_reducible refine gate_dst (N := 3) rfl ?_); refine bx_ 3 #[.int .u64 a1_0, .int .u64 a1_1] 26 ?_; intro gb506 hg w5 BK506 hb; have GW506 := bg_ hg; have GE506 := GW506; have NB505_506 := bm_ hg BK505; have NB506_505 := bn_ hg BK505; replace BK505 := bb_ hb BK505; replace HB := bl_ hb; clear hb hg) | ((with_reducible refine gate_dst (N := 4) rfl ?_); refine bx_ 4 #[.int .u64 0, .int .u64 0] 26 ?_; intro gb507 hg w6 BK507 hb; have GW507 := bg_ hg; have GE507 := GW507; have NB505_507 := bm_ hg BK505; have NB507_505 := bn_ hg BK505; have NB506_507 := bm_ hg BK506; have NB507_506 := bn_ hg BK506; replace BK505 := bb_ hb BK505; replace BK506 := bb_ hb BK506; replace HB := bl_ hb; clear hb hg))
 (try simp only [Act.put, s1_, s2_, s3_])
 go_cut [5] (fun v5 wc => ∃ (kq : Nat) (x5_2 : Bool), v5 = .bool x5_2 ∧ Aside0 (span_UMod.j0 kq x5_2 a0_0 a0_1 a1_0 a1_1 = some (r1, r2)) ∧ Aside0 (kq ≤ k) ∧ Aside0 (wc.heap[gb505]? = some (.cells #[.int .u64 a0_0, .int .u64 a0_1] 26 (0, 0))) ∧ Aside0 (wc.heap[gb506]? = some (.cells #[.int .u64 a1_0, .int .u64 a1_1] 26 (0, 0))) ∧ Aside0 (wc.heap[gb507]? = some (.cells #[.int .u64 0, .int .u64 0] 26 (0, 0))) ∧ Aside0 (Below w.heap.size w wc))
 case first =>
  have H := HC3.out
  clear HC3
  replace H := Option.bind_eq_some_iff.mp H
  obtain ⟨t508, A70, H⟩ := H
  replace H : (if t508 = true then (span_UMod.j0 k (a1_0 == 0) a0_0 a0_1 a1_0 a1_1) else (span_UMod.j0 k true a0_0 a0_1 a1_0 a1_1)) = some (r1, r2) := H
  have A7 := Aside0.mk A70
  clear A70
  by_cases c8 : t508 = true
  ·subst c8
   have H1 : (span_UMod.j0 k (a1_0 == 0) a0_0 a0_1 a1_0 a1_1) = some (r1, r2) := by rw [if_pos rfl] at H; exact H
   clear H
   have H := H1
   clear H1
   have H' := Aside0.mk H
   clear H
   have hnb9 := NB506_505.out
   have hnc9 := NB505_506.out
   have hnb10 := NB506_507.out
   have hnc10 := NB507_506.out
   have hcz11_0 := c0_ BK506
   have hcz11_1 := c1_ BK506
   have hfz11_0 := fz_ BK506 0
   have hfz11_1 := fz_ BK506 1
   go_wp2_with (first | ((with_reducible refine gate_callee (f := 89) rfl ?_); refine goesL_ (some 7) rfl rfl Try.func89 (by kernel_rfl) rfl #[.agg #[.int .u64 a1_0, .int .u64 a1_1]] rfl (by (try simp only [List.map_toArray, List.map_cons, List.map_nil]); first | done | rfl) ?_; (with_reducible refine (span_alone.calls a1_0 a1_1 true _ A7.out).mono ?_); rintro e w12 ⟨rfl, hb⟩; refine ⟨_, rfl, ?_⟩; replace BK505 := bb_ hb BK505; replace BK506 := bb_ hb BK506; replace BK507 := bb_ hb BK507; replace HB := bl_ hb; (try clear hb); (try clear hb2); (try clear hk); (try clear hi); have hcz13_0 := c0_ BK506; have hcz13_1 := c1_ BK506; have hfz13_0 := fz_ BK506 0; have hfz13_1 := fz_ BK506 1))
   go_meet
   case rel => exact ⟨_, ((a1_0 == 0)), (by first | rfl | (simp; done) | (simp [*]; done)), H', ⟨by first | omega | exact Nat.le_refl _⟩, ⟨by exact bk_⟩, ⟨by exact bk_⟩, ⟨by exact bk_⟩, ⟨by repeat (first | (with_reducible first | exact HB.out | apply lA_ | apply lN_ | apply lD_ | refine lS_ ?_ GE505.out | refine lS_ ?_ GE506.out | refine lS_ ?_ GE507.out) | exact HB.out)⟩⟩
  ·replace c8 := Bool.eq_false_iff.mpr c8
   subst c8
   have H1 : (span_UMod.j0 k true a0_0 a0_1 a1_0 a1_1) = some (r1, r2) := by rw [if_neg (show ¬ (false = true) by decide)] at H; exact H
   clear H
   have H := H1
   clear H1
   have H' := Aside0.mk H
   clear H
   have hnb14 := NB506_505.out
   have hnc14 := NB505_506.out
   have hnb15 := NB506_507.out
   have hnc15 := NB507_506.out
   have hcz16_0 := c0_ BK506
   have hcz16_1 := c1_ BK506
   have hfz16_0 := fz_ BK506 0
   have hfz16_1 := fz_ BK506 1
   go_wp2_with (first | ((with_reducible refine gate_callee (f := 89) rfl ?_); refine goesL_ (some 7) rfl rfl Try.func89 (by kernel_rfl) rfl #[.agg #[.int .u64 a1_0, .int .u64 a1_1]] rfl (by (try simp only [List.map_toArray, List.map_cons, List.map_nil]); first | done | rfl) ?_; (with_reducible refine (span_alone.calls a1_0 a1_1 false _ A7.out).mono ?_); rintro e w17 ⟨rfl, hb⟩; refine ⟨_, rfl, ?_⟩; replace BK505 := bb_ hb BK505; replace BK506 := bb_ hb BK506; replace BK507 := bb_ hb BK507; replace HB := bl_ hb; (try clear hb); (try clear hb2); (try clear hk); (try clear hi)))
   go_meet
   case rel => exact ⟨_, (true), (by first | rfl | (simp; done) | (simp [*]; done)), H', ⟨by first | omega | exact Nat.le_refl _⟩, ⟨by exact bk_⟩, ⟨by exact bk_⟩, ⟨by exact bk_⟩, ⟨by repeat (first | (with_reducible first | exact HB.out | apply lA_ | apply lN_ | apply lD_ | refine lS_ ?_ GE505.out | refine lS_ ?_ GE506.out | refine lS_ ?_ GE507.out) | exact HB.out)⟩⟩
 case rest =>
  clear HC3
  try clear c1
  try clear p2
  try clear c5
  try clear c8
  try clear c9
  try clear c10
  try clear c14
  try clear c15
  try clear hcz11_0
  try clear hcz11_1
  try clear hcz13_0
  try clear hcz13_1
  try clear hcz16_0
  try clear hcz16_1
  try clear hfz11_0
  try clear hfz11_1
  try clear hfz13_0
  try clear hfz13_1
  try clear hfz16_0
  try clear hfz16_1
  obtain ⟨kq, x5_2, rfl, HA, HJ2, BK505, BK506, BK507, HB⟩ := hcut
  cases kq with
  | zero => exact absurd HA.out (by simp [span_UMod.j0])
  | succ kj2 =>
   have H := HA.out
   clear HA
   simp only [span_UMod.j0] at H
   by_cases c18 : x5_2 = true
   ·subst c18
    have H1 : (some (0, a0_1)) = some (r1, r2) := by rw [if_pos rfl] at H; exact H
    clear H
    have H := H1
    clear H1
    simp only [Option.some.injEq, Prod.mk.injEq] at H
    obtain ⟨rfl, rfl⟩ := H
    have hnb19 := NB505_506.out
    have hnc19 := NB506_505.out
    have hnb20 := NB505_507.out
    have hnc20 := NB507_505.out
    have hcz21_0 := c0_ BK505
    have hcz21_1 := c1_ BK505
    have hfz21_0 := fz_ BK505 0
    have hfz21_1 := fz_ BK505 1
    have hnb22 := NB507_506.out
    have hnc22 := NB506_507.out
    have hcz23_0 := c0_ BK507
    have hcz23_1 := c1_ BK507
    have hfz23_0 := fz_ BK507 0
    have hfz23_1 := fz_ BK507 1
    go_wp2
    refine bodyPost_ret (results_cell_row rfl _ _ gb507 26 #[.int .u64 0, .int .u64 a0_1] (0, 0) _ rfl (by (with_reducible repeat (first | apply bN_ | apply bD_ | apply bA_)); refine blk_put (cs := #[.int .u64 0, .int .u64 0]) ?_ 1 _ rfl; (with_reducible repeat (first | apply bN_ | apply bD_ | apply bA_)); refine blk_put (cs := #[.int .u64 0, .int .u64 0]) ?_ 0 _ rfl; exact bk_) Try.underlying26 rfl (by kernel_rfl)) rfl ?_
    exact ⟨vv_, bz_⟩
   ·replace c18 := Bool.eq_false_iff.mpr c18
    subst c18
    have H1 : (if a0_1 < a1_0 then (some (a0_0, a0_1)) else ((span_alone.f a0_0 a0_1).bind fun t509 => (if t509 = true then (if a1_0 = 0 then (none) else ((span_UOf.f (Int.tmod a0_0 a1_0)).bind fun bt510 => (some (bt510.1, bt510.2)))) else (some (0, IntKind.u64.wrap (a1_0 - 1)))))) = some (r1, r2) := by rw [if_neg (show ¬ (false = true) by decide)] at H; exact H
    clear H
    have H := H1
    clear H1
    by_cases c24 : a0_1 < a1_0
    ·rw [if_pos c24] at H
     have c24b0 : decide (a0_1 < a1_0) = true := decide_eq_true c24
     clear c24
     simp only [Option.some.injEq, Prod.mk.injEq] at H
     obtain ⟨rfl, rfl⟩ := H
     have hnb25 := NB505_506.out
     have hnc25 := NB506_505.out
     have hnb26 := NB505_507.out
     have hnc26 := NB507_505.out
     have hcz27_0 := c0_ BK505
     have hcz27_1 := c1_ BK505
     have hfz27_0 := fz_ BK505 0
     have hfz27_1 := fz_ BK505 1
     have hnb28 := NB506_507.out
     have hnc28 := NB507_506.out
     have hcz29_0 := c0_ BK506
     have hcz29_1 := c1_ BK506
     have hfz29_0 := fz_ BK506 0
     have hfz29_1 := fz_ BK506 1
     have hcz30_0 := c0_ BK507
     have hcz30_1 := c1_ BK507
     have hfz30_0 := fz_ BK507 0
     have hfz30_1 := fz_ BK507 1
     go_wp2
     refine bodyPost_ret (results_cell_row rfl _ _ gb507 26 #[.int .u64 a0_0, .int .u64 a0_1] (0, 0) _ rfl (by (with_reducible repeat (first | apply bN_ | apply bD_ | apply bA_)); refine blk_put (cs := #[.int .u64 a0_0, .int .u64 0]) ?_ 1 _ rfl; (with_reducible repeat (first | apply bN_ | apply bD_ | apply bA_)); refine blk_put (cs := #[.int .u64 0, .int .u64 0]) ?_ 0 _ rfl; exact bk_) Try.underlying26 rfl (by kernel_rfl)) rfl ?_
     exact ⟨vv_, bz_⟩
    ·rw [if_neg c24] at H
     have c24b0 : decide (a0_1 < a1_0) = false := decide_eq_false c24
     clear c24
     replace H := Option.bind_eq_some_iff.mp H
     obtain ⟨t509, A310, H⟩ := H
     replace H : (if t509 = true then (if a1_0 = 0 then (none) else ((span_UOf.f (Int.tmod a0_0 a1_0)).bind fun bt510 => (some (bt510.1, bt510.2)))) else (some (0, IntKind.u64.wrap (a1_0 - 1)))) = some (r1, r2) := H
     have A31 := Aside0.mk A310
     clear A310
     by_cases c32 : t509 = true
     ·subst c32
      have H1 : (if a1_0 = 0 then (none) else ((span_UOf.f (Int.tmod a0_0 a1_0)).bind fun bt510 => (some (bt510.1, bt510.2)))) = some (r1, r2) := by rw [if_pos rfl] at H; exact H
      clear H
      have H := H1
      clear H1
      by_cases c33 : a1_0 = 0
      ·rw [if_pos c33] at H
       exact absurd H (by simp)
      ·rw [if_neg c33] at H
       have c33b0 : (a1_0 == 0) = false := beq_eq_false_iff_ne.mpr c33
       have c33b1 : (a1_0 != 0) = true := bne_iff_ne.mpr c33
       replace H := Option.bind_eq_some_iff.mp H
       obtain ⟨⟨t510, t511⟩, A340, H⟩ := H
       replace H : (some (t510, t511)) = some (r1, r2) := H
       have A34 := Aside0.mk A340
       clear A340
       simp only [Option.some.injEq, Prod.mk.injEq] at H
       obtain ⟨rfl, rfl⟩ := H
       have hnb35 := NB505_506.out
       have hnc35 := NB506_505.out
       have hnb36 := NB505_507.out
       have hnc36 := NB507_505.out
       have hcz37_0 := c0_ BK505
       have hcz37_1 := c1_ BK505
       have hfz37_0 := fz_ BK505 0
       have hfz37_1 := fz_ BK505 1
       have hnb38 := NB506_507.out
       have hnc38 := NB507_506.out
       have hcz39_0 := c0_ BK506
       have hcz39_1 := c1_ BK506
       have hfz39_0 := fz_ BK506 0
       have hfz39_1 := fz_ BK506 1
       go_wp2_with (first | ((with_reducible refine gate_callee (f := 89) rfl ?_); refine goesL_ (some 26) rfl rfl Try.func89 (by kernel_rfl) rfl #[.agg #[.int .u64 a0_0, .int .u64 a0_1]] rfl (by (try simp only [List.map_toArray, List.map_cons, List.map_nil]); first | done | rfl) ?_; (with_reducible refine (span_alone.calls a0_0 a0_1 true _ A31.out).mono ?_); rintro e w40 ⟨rfl, hb⟩; refine ⟨_, rfl, ?_⟩; replace BK505 := bb_ hb BK505; replace BK506 := bb_ hb BK506; replace BK507 := bb_ hb BK507; replace HB := bl_ hb; (try clear hb); (try clear hb2); (try clear hk); (try clear hi); have hcz41_0 := c0_ BK505; have hcz41_1 := c1_ BK505; have hfz41_0 := fz_ BK505 0; have hfz41_1 := fz_ BK505 1; have hcz42_0 := c0_ BK506; have hcz42_1 := c1_ BK506; have hfz42_0 := fz_ BK506 0; have hfz42_1 := fz_ BK506 1) | ((with_reducible refine gate_callee (f := 42) rfl ?_); refine goesL_ (some 32) rfl rfl Try.func42 (by kernel_rfl) rfl #[.int .u64 (Int.tmod a0_0 a1_0)] rfl (by (try simp only [List.map_toArray, List.map_cons, List.map_nil]); first | done | rfl) ?_; (with_reducible refine (span_UOf.calls (Int.tmod a0_0 a1_0) t510 t511 _ A34.out).mono ?_); rintro e w43 ⟨rfl, hb⟩; refine ⟨_, rfl, ?_⟩; replace BK505 := bb_ hb BK505; replace BK506 := bb_ hb BK506; replace BK507 := bb_ hb BK507; replace HB := bl_ hb; (try clear hb); (try clear hb2); (try clear hk); (try clear hi); have hcz44_0 := c0_ BK507; have hcz44_1 := c1_ BK507; have hfz44_0 := fz_ BK507 0; have hfz44_1 := fz_ BK507 1))
       refine bodyPost_ret (results_cell_row rfl _ _ gb507 26 #[.int .u64 t510, .int .u64 t511] (0, 0) _ rfl (by (with_reducible repeat (first | apply bN_ | apply bD_ | apply bA_)); refine blk_put (cs := #[.int .u64 t510, .int .u64 0]) ?_ 1 _ rfl; (with_reducible repeat (first | apply bN_ | apply bD_ | apply bA_)); refine blk_put (cs := #[.int .u64 0, .int .u64 0]) ?_ 0 _ rfl; exact bk_) Try.underlying26 rfl (by kernel_rfl)) rfl ?_
       exact ⟨vv_, bz_⟩
     ·replace c32 := Bool.eq_false_iff.mpr c32
      subst c32
      have H1 : (some (0, IntKind.u64.wrap (a1_0 - 1))) = some (r1, r2) := by rw [if_neg (show ¬ (false = true) by decide)] at H; exact H
      clear H
      have H := H1
      clear H1
      simp only [Option.some.injEq, Prod.mk.injEq] at H
      obtain ⟨rfl, rfl⟩ := H
      have hnb45 := NB505_506.out
      have hnc45 := NB506_505.out
      have hnb46 := NB505_507.out
      have hnc46 := NB507_505.out
      have hcz47_0 := c0_ BK505
      have hcz47_1 := c1_ BK505
      have hfz47_0 := fz_ BK505 0
      have hfz47_1 := fz_ BK505 1
      have hnb48 := NB506_507.out
      have hnc48 := NB507_506.out
      have hcz49_0 := c0_ BK506
      have hcz49_1 := c1_ BK506
      have hfz49_0 := fz_ BK506 0
      have hfz49_1 := fz_ BK506 1
      go_wp2_with (first | ((with_reducible refine gate_callee (f := 89) rfl ?_); refine goesL_ (some 26) rfl rfl Try.func89 (by kernel_rfl) rfl #[.agg #[.int .u64 a0_0, .int .u64 a0_1]] rfl (by (try simp only [List.map_toArray, List.map_cons, List.map_nil]); first | done | rfl) ?_; (with_reducible refine (span_alone.calls a0_0 a0_1 false _ A31.out).mono ?_); rintro e w50 ⟨rfl, hb⟩; refine ⟨_, rfl, ?_⟩; replace BK505 := bb_ hb BK505; replace BK506 := bb_ hb BK506; replace BK507 := bb_ hb BK507; replace HB := bl_ hb; (try clear hb); (try clear hb2); (try clear hk); (try clear hi); have hcz51_0 := c0_ BK506; have hcz51_1 := c1_ BK506; have hfz51_0 := fz_ BK506 0; have hfz51_1 := fz_ BK506 1; have hcz52_0 := c0_ BK507; have hcz52_1 := c1_ BK507; have hfz52_0 := fz_ BK507 0; have hfz52_1 := fz_ BK507 1))
      refine bodyPost_ret (results_cell_row rfl _ _ gb507 26 #[.int .u64 0, .int .u64 (IntKind.u64.wrap (a1_0 - 1))] (0, 0) _ rfl (by (with_reducible repeat (first | apply bN_ | apply bD_ | apply bA_)); refine blk_put (cs := #[.int .u64 0, .int .u64 0]) ?_ 1 _ rfl; (with_reducible repeat (first | apply bN_ | apply bD_ | apply bA_)); refine blk_put (cs := #[.int .u64 0, .int .u64 0]) ?_ 0 _ rfl; exact bk_) Try.underlying26 rfl (by kernel_rfl)) rfl ?_
      exact ⟨vv_, bz_⟩

/-! ### bits_Mul64: function 91 -/
def bits_Mul64.f (a0 : Int) (a1 : Int) : Option (Int × Int) := some (IntKind.u64.wrap ((IntKind.u64.wrap ((IntKind.u64.wrap ((a0 / 4294967296) * (a1 / 4294967296))) + ((IntKind.u64.wrap ((IntKind.u64.wrap ((a0 / 4294967296) * (Go.bits .and .u64 a1 4294967295))) + ((IntKind.u64.wrap ((Go.bits .and .u64 a0 4294967295) * (Go.bits .and .u64 a1 4294967295))) / 4294967296))) / 4294967296))) + ((IntKind.u64.wrap ((Go.bits .and .u64 (IntKind.u64.wrap ((IntKind.u64.wrap ((a0 / 4294967296) * (Go.bits .and .u64 a1 4294967295))) + ((IntKind.u64.wrap ((Go.bits .and .u64 a0 4294967295) * (Go.bits .and .u64 a1 4294967295))) / 4294967296))) 4294967295) + (IntKind.u64.wrap ((Go.bits .and .u64 a0 4294967295) * (a1 / 4294967296))))) / 4294967296)), IntKind.u64.wrap (a0 * a1))
set_option maxHeartbeats 8000000 in
set_option maxRecDepth 100000 in
theorem bits_Mul64.calls (a0 : Int) (a1 : Int) (r1 : Int) (r2 : Int) (w : World) (h : bits_Mul64.f a0 a1 = some (r1, r2)) :
 Calls Try.prog 91 #[.int .u64 a0, .int .u64 a1] w fun e w' => e = .returned (.tuple #[.int .u64 r1, .int .u64 r2]) ∧ Drawn0 w w' := by
 have H : (some (IntKind.u64.wrap ((IntKind.u64.wrap ((IntKind.u64.wrap ((a0 / 4294967296) * (a1 / 4294967296))) + ((IntKind.u64.wrap ((IntKind.u64.wrap ((a0 / 4294967296) * (Go.bits .and .u64 a1 4294967295))) + ((IntKind.u64.wrap ((Go.bits .and .u64 a0 4294967295) * (Go.bits .and .u64 a1 4294967295))) / 4294967296))) / 4294967296))) + ((IntKind.u64.wrap ((Go.bits .and .u64 (IntKind.u64.wrap ((IntKind.u64.wrap ((a0 / 4294967296) * (Go.bits .and .u64 a1 4294967295))) + ((IntKind.u64.wrap ((Go.bits .and .u64 a0 4294967295) * (Go.bits .and .u64 a1 4294967295))) / 4294967296))) 4294967295) + (IntKind.u64.wrap ((Go.bits .and .u64 a0 4294967295) * (a1 / 4294967296))))) / 4294967296)), IntKind.u64.wrap (a0 * a1))) = some (r1, r2) := h
 clear h
 simp only [Option.some.injEq, Prod.mk.injEq] at H
 obtain ⟨rfl, rfl⟩ := H
 go_enter Try.func91, Try.ntmps91
 go_wp2
 go_ret2
 exact ⟨by first | (simp; done) | rfl | (simp [*]; done), by repeat (first | exact Drawn0.refl _ | apply Drawn0.step)⟩

/-! ### span_UMul: function 54 -/
def span_UMul.f (a0_0 : Int) (a0_1 : Int) (a1_0 : Int) (a1_1 : Int) : Option (Int × Int) := (bits_Mul64.f a0_1 a1_1).bind fun bt570 => (if bt570.1 = 0 then (some (IntKind.u64.wrap (a0_0 * a1_0), bt570.2)) else ((span_UAll.f).bind fun bt572 => (some (bt572.1, bt572.2))))
set_option maxHeartbeats 8000000 in
set_option maxRecDepth 100000 in
theorem span_UMul.calls (a0_0 : Int) (a0_1 : Int) (a1_0 : Int) (a1_1 : Int) (r1 : Int) (r2 : Int) (w : World) (h : span_UMul.f a0_0 a0_1 a1_0 a1_1 = some (r1, r2)) :
 Calls Try.prog 54 #[.agg #[.int .u64 a0_0, .int .u64 a0_1], .agg #[.int .u64 a1_0, .int .u64 a1_1]] w fun e w' => e = .returned (.agg #[.int .u64 r1, .int .u64 r2]) ∧ Below w.heap.size w w' := by
 have hu26 := Try.underlying26
 have HB := Aside0.mk (Below.refl w.heap.size w)
 have H : ((bits_Mul64.f a0_1 a1_1).bind fun bt570 => (if bt570.1 = 0 then (some (IntKind.u64.wrap (a0_0 * a1_0), bt570.2)) else ((span_UAll.f).bind fun bt572 => (some (bt572.1, bt572.2))))) = some (r1, r2) := h
 clear h
 replace H := Option.bind_eq_some_iff.mp H
 obtain ⟨⟨t570, t571⟩, A30, H⟩ := H
 replace H : (if t570 = 0 then (some (IntKind.u64.wrap (a0_0 * a1_0), t571)) else ((span_UAll.f).bind fun bt572 => (some (bt572.1, bt572.2)))) = some (r1, r2) := H
 have A3 := Aside0.mk A30
 clear A30
 by_cases c4 : t570 = 0
 ·rw [if_pos c4] at H
  have c4b0 : (t570 == 0) = true := beq_iff_eq.mpr c4
  have c4b1 : (t570 != 0) = false := bne_eq_false_iff_eq.mpr c4
  clear c4
  simp only [Option.some.injEq, Prod.mk.injEq] at H
  obtain ⟨rfl, rfl⟩ := H
  go_enter Try.func54, Try.ntmps54
  go_wp2_with (first | ((with_reducible refine gate_dst (N := 2) rfl ?_); refine bx_ 2 #[.int .u64 a0_0, .int .u64 a0_1] 26 ?_; intro gb567 hg w5 BK567 hb; have GW567 := bg_ hg; have GE567 := GW567; replace HB := bl_ hb; clear hb hg) | ((with_reducible refine gate_dst (N := 3) rfl ?_); refine bx_ 3 #[.int .u64 a1_0, .int .u64 a1_1] 26 ?_; intro gb568 hg w6 BK568 hb; have GW568 := bg_ hg; have GE568 := GW568; have NB567_568 := bm_ hg BK567; have NB568_567 := bn_ hg BK567; replace BK567 := bb_ hb BK567; replace HB := bl_ hb; clear hb hg) | ((with_reducible refine gate_dst (N := 4) rfl ?_); refine bx_ 4 #[.int .u64 0, .int .u64 0] 26 ?_; intro gb569 hg w7 BK569 hb; have GW569 := bg_ hg; have GE569 := GW569; have NB567_569 := bm_ hg BK567; have NB569_567 := bn_ hg BK567; have NB568_569 := bm_ hg BK568; have NB569_568 := bn_ hg BK568; replace BK567 := bb_ hb BK567; replace BK568 := bb_ hb BK568; replace HB := bl_ hb; clear hb hg; have hnb8 := NB567_568.out; have hnc8 := NB568_567.out; have hnb9 := NB567_569.out; have hnc9 := NB569_567.out; have hcz10_0 := c0_ BK567; have hcz10_1 := c1_ BK567; have hfz10_0 := fz_ BK567 0; have hfz10_1 := fz_ BK567 1; have hnb11 := NB568_569.out; have hnc11 := NB569_568.out; have hcz12_0 := c0_ BK568; have hcz12_1 := c1_ BK568; have hfz12_0 := fz_ BK568 0; have hfz12_1 := fz_ BK568 1) | ((with_reducible refine gate_callee (f := 91) rfl ?_); refine goesL_ (some 12) rfl rfl Try.func91 (by kernel_rfl) rfl #[.int .u64 a0_1, .int .u64 a1_1] rfl (by (try simp only [List.map_toArray, List.map_cons, List.map_nil]); first | done | rfl) ?_; (with_reducible refine (bits_Mul64.calls a0_1 a1_1 t570 t571 _ A3.out).mono ?_); rintro e w' ⟨rfl, ⟨nd, rfl⟩⟩; refine ⟨_, rfl, ?_⟩; (try (rw [drewN_self w7]; generalize hq_ : World.drewN w7 _ = w7; have n0_ : Aside0 (w7.heap[gb567]? = some (.cells #[.int .u64 a0_0, .int .u64 a0_1] 26 (0, 0))) := ⟨by rw [← hq_]; exact (by exact bk_)⟩; have n1_ : Aside0 (w7.heap[gb568]? = some (.cells #[.int .u64 a1_0, .int .u64 a1_1] 26 (0, 0))) := ⟨by rw [← hq_]; exact (by exact bk_)⟩; have n2_ : Aside0 (w7.heap[gb569]? = some (.cells #[.int .u64 0, .int .u64 0] 26 (0, 0))) := ⟨by rw [← hq_]; exact (by exact bk_)⟩; have n3_ : Aside0 (Below w.heap.size w w7) := ⟨by rw [← hq_]; exact (by repeat (first | (with_reducible first | exact HB.out | apply lA_ | apply lN_ | apply lD_ | refine lS_ ?_ GE567.out | refine lS_ ?_ GE568.out | refine lS_ ?_ GE569.out) | exact HB.out))⟩; clear BK567 BK568 BK569 HB hq_; have BK567 := n0_; have BK568 := n1_; have BK569 := n2_; have HB := n3_; clear n0_ n1_ n2_ n3_)); have hcygb567_0 := c0_ BK567; have hfygb567_0 := fz_ BK567 0; have hcygb567_1 := c1_ BK567; have hfygb567_1 := fz_ BK567 1; have hcygb568_0 := c0_ BK568; have hfygb568_0 := fz_ BK568 0; have hcygb568_1 := c1_ BK568; have hfygb568_1 := fz_ BK568 1; have hcz13_0 := c0_ BK569; have hcz13_1 := c1_ BK569; have hfz13_0 := fz_ BK569 0; have hfz13_1 := fz_ BK569 1))
  refine bodyPost_ret (results_cell_row rfl _ _ gb569 26 #[.int .u64 (IntKind.u64.wrap (a0_0 * a1_0)), .int .u64 t571] (0, 0) _ rfl (by (with_reducible repeat (first | apply bN_ | apply bD_ | apply bA_)); refine blk_put (cs := #[.int .u64 (IntKind.u64.wrap (a0_0 * a1_0)), .int .u64 0]) ?_ 1 _ rfl; (with_reducible repeat (first | apply bN_ | apply bD_ | apply bA_)); refine blk_put (cs := #[.int .u64 0, .int .u64 0]) ?_ 0 _ rfl; exact bk_) Try.underlying26 rfl (by kernel_rfl)) rfl ?_
  exact ⟨vv_, bz_⟩
 ·rw [if_neg c4] at H
  have c4b0 : (t570 == 0) = false := beq_eq_false_iff_ne.mpr c4
  have c4b1 : (t570 != 0) = true := bne_iff_ne.mpr c4
  replace H := Option.bind_eq_some_iff.mp H
  obtain ⟨⟨t572, t573⟩, A140, H⟩ := H
  replace H : (some (t572, t573)) = some (r1, r2) := H
  have A14 := Aside0.mk A140
  clear A140
  simp only [Option.some.injEq, Prod.mk.injEq] at H
  obtain ⟨rfl, rfl⟩ := H
  go_enter Try.func54, Try.ntmps54
  go_wp2_with (first | ((with_reducible refine gate_dst (N := 2) rfl ?_); refine bx_ 2 #[.int .u64 a0_0, .int .u64 a0_1] 26 ?_; intro gb567 hg w15 BK567 hb; have GW567 := bg_ hg; have GE567 := GW567; replace HB := bl_ hb; clear hb hg) | ((with_reducible refine gate_dst (N := 3) rfl ?_); refine bx_ 3 #[.int .u64 a1_0, .int .u64 a1_1] 26 ?_; intro gb568 hg w16 BK568 hb; have GW568 := bg_ hg; have GE568 := GW568; have NB567_568 := bm_ hg BK567; have NB568_567 := bn_ hg BK567; replace BK567 := bb_ hb BK567; replace HB := bl_ hb; clear hb hg) | ((with_reducible refine gate_dst (N := 4) rfl ?_); refine bx_ 4 #[.int .u64 0, .int .u64 0] 26 ?_; intro gb569 hg w17 BK569 hb; have GW569 := bg_ hg; have GE569 := GW569; have NB567_569 := bm_ hg BK567; have NB569_567 := bn_ hg BK567; have NB568_569 := bm_ hg BK568; have NB569_568 := bn_ hg BK568; replace BK567 := bb_ hb BK567; replace BK568 := bb_ hb BK568; replace HB := bl_ hb; clear hb hg; have hnb18 := NB567_568.out; have hnc18 := NB568_567.out; have hnb19 := NB567_569.out; have hnc19 := NB569_567.out; have hcz20_0 := c0_ BK567; have hcz20_1 := c1_ BK567; have hfz20_0 := fz_ BK567 0; have hfz20_1 := fz_ BK567 1; have hnb21 := NB568_569.out; have hnc21 := NB569_568.out; have hcz22_0 := c0_ BK568; have hcz22_1 := c1_ BK568; have hfz22_0 := fz_ BK568 0; have hfz22_1 := fz_ BK568 1) | ((with_reducible refine gate_callee (f := 91) rfl ?_); refine goesL_ (some 12) rfl rfl Try.func91 (by kernel_rfl) rfl #[.int .u64 a0_1, .int .u64 a1_1] rfl (by (try simp only [List.map_toArray, List.map_cons, List.map_nil]); first | done | rfl) ?_; (with_reducible refine (bits_Mul64.calls a0_1 a1_1 t570 t571 _ A3.out).mono ?_); rintro e w' ⟨rfl, ⟨nd, rfl⟩⟩; refine ⟨_, rfl, ?_⟩; (try (rw [drewN_self w17]; generalize hq_ : World.drewN w17 _ = w17; have n0_ : Aside0 (w17.heap[gb567]? = some (.cells #[.int .u64 a0_0, .int .u64 a0_1] 26 (0, 0))) := ⟨by rw [← hq_]; exact (by exact bk_)⟩; have n1_ : Aside0 (w17.heap[gb568]? = some (.cells #[.int .u64 a1_0, .int .u64 a1_1] 26 (0, 0))) := ⟨by rw [← hq_]; exact (by exact bk_)⟩; have n2_ : Aside0 (w17.heap[gb569]? = some (.cells #[.int .u64 0, .int .u64 0] 26 (0, 0))) := ⟨by rw [← hq_]; exact (by exact bk_)⟩; have n3_ : Aside0 (Below w.heap.size w w17) := ⟨by rw [← hq_]; exact (by repeat (first | (with_reducible first | exact HB.out | apply lA_ | apply lN_ | apply lD_ | refine lS_ ?_ GE567.out | refine lS_ ?_ GE568.out | refine lS_ ?_ GE569.out) | exact HB.out))⟩; clear BK567 BK568 BK569 HB hq_; have BK567 := n0_; have BK568 := n1_; have BK569 := n2_; have HB := n3_; clear n0_ n1_ n2_ n3_)); have hcygb567_0 := c0_ BK567; have hfygb567_0 := fz_ BK567 0; have hcygb567_1 := c1_ BK567; have hfygb567_1 := fz_ BK567 1; have hcygb568_0 := c0_ BK568; have hfygb568_0 := fz_ BK568 0; have hcygb568_1 := c1_ BK568; have hfygb568_1 := fz_ BK568 1; have hcygb569_0 := c0_ BK569; have hfygb569_0 := fz_ BK569 0; have hcygb569_1 := c1_ BK569; have hfygb569_1 := fz_ BK569 1) | ((with_reducible refine gate_callee (f := 72) rfl ?_); refine goesL_ (some 17) rfl rfl Try.func72 (by kernel_rfl) rfl #[] rfl (by (try simp only [List.map_toArray, List.map_cons, List.map_nil]); first | done | rfl) ?_; (with_reducible refine (span_UAll.calls  t572 t573 _ A14.out).mono ?_); rintro e w23 ⟨rfl, hb⟩; refine ⟨_, rfl, ?_⟩; replace BK567 := bb_ hb BK567; replace BK568 := bb_ hb BK568; replace BK569 := bb_ hb BK569; replace HB := bl_ hb; (try clear hb); (try clear hb2); (try clear hk); (try clear hi); have hcz24_0 := c0_ BK569; have hcz24_1 := c1_ BK569; have hfz24_0 := fz_ BK569 0; have hfz24_1 := fz_ BK569 1))
  refine bodyPost_ret (results_cell_row rfl _ _ gb569 26 #[.int .u64 t572, .int .u64 t573] (0, 0) _ rfl (by (with_reducible repeat (first | apply bN_ | apply bD_ | apply bA_)); refine blk_put (cs := #[.int .u64 t572, .int .u64 0]) ?_ 1 _ rfl; (with_reducible repeat (first | apply bN_ | apply bD_ | apply bA_)); refine blk_put (cs := #[.int .u64 0, .int .u64 0]) ?_ 0 _ rfl; exact bk_) Try.underlying26 rfl (by kernel_rfl)) rfl ?_
  exact ⟨vv_, bz_⟩

end Go.Proofs.Ytnephcecobocdaa.PA
