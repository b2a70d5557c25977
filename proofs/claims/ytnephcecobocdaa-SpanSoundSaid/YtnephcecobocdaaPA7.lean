-- PRINTED by print.py (a twelfth state) out of the translation. Not trusted: Lean checks it.
import Derived.Test.YtnephcecobocdaaWTab
import Derived.Test.YtnephcecobocdaaPA0
import Derived.Test.YtnephcecobocdaaSq
import Derived.Test.YtnephcecobocdaaPA5
import Derived.Test.YtnephcecobocdaaPA6
namespace Go.Proofs.Ytnephcecobocdaa.PA
open Go.RowKit Go.Proofs.YtnephcecobocdaaW.PrintWords Go.Proofs.YtnephcecobocdaaW.PrintLast Go.Proofs.YtnephcecobocdaaW.PrintMore
attribute [local go_sem] max2_int min2_int max_two min_two max_three min_three max_four min_four   -- for this text's walks alone
set_option linter.unusedVariables false
set_option linter.unusedSimpArgs false

/-! ### span_UOr: function 46 -/
def span_UOr.j0 : Nat → Bool → Int → Int → Int → Int → Option (Int × Int)
 | 0, _, _, _, _, _ => none
 | k + 1, x10, x142000, x142001, x143000, x143001 => if x10 = true then ((span_UOf.f (Go.bits .or .u64 x142000 x143000)).bind fun bt146 => (some (bt146.1, bt146.2))) else ((span_below.f k (Go.bits .or .u64 x142001 x143001)).bind fun t148 => (some (mx x142000 x143000, t148)))
def span_UOr.f (k : Nat) (a0_0 : Int) (a0_1 : Int) (a1_0 : Int) (a1_1 : Int) : Option (Int × Int) := (span_alone.f a0_0 a0_1).bind fun t144 => (if t144 = true then ((span_alone.f a1_0 a1_1).bind fun t145 => (span_UOr.j0 k t145 a0_0 a0_1 a1_0 a1_1)) else (span_UOr.j0 k false a0_0 a0_1 a1_0 a1_1))
theorem span_UOr.mono_l : ∀ k, (∀ y0 y1 y2 y3 y4, LeO (span_UOr.j0 k y0 y1 y2 y3 y4) (span_UOr.j0 (k + 1) y0 y1 y2 y3 y4))
 | 0 => fun _ _ _ _ _ r h => by simp [span_UOr.j0] at h
 | k + 1 => by
  have ih0 := span_UOr.mono_l k
  ·intro y0 y1 y2 y3 y4
   unfold span_UOr.j0
   repeat' first
   | (with_reducible exact ih0 _ _ _ _ _)
   | (with_reducible exact span_below.mono _ _)
   | (with_reducible exact LeO.refl _)
   | (with_reducible exact LeO.none _)
   | (with_reducible refine LeO.ite ?_ ?_)
   | (with_reducible refine LeO.bind ?_ (fun _ => ?_))
   | exact ih0 _ _ _ _ _
   | exact span_below.mono _ _
   | exact LeO.none _
   | refine LeO.ite ?_ ?_
   | refine LeO.bind ?_ (fun _ => ?_)
theorem span_UOr.mono : ∀ a0 a1 a2 a3 k, LeO (span_UOr.f k a0 a1 a2 a3) (span_UOr.f (k + 1) a0 a1 a2 a3) := by
 intro a0 a1 a2 a3 k
 have ih0 := span_UOr.mono_l k
 unfold span_UOr.f
 repeat' first
  | (with_reducible exact ih0 _ _ _ _ _)
  | (with_reducible exact span_below.mono _ _)
  | (with_reducible exact LeO.refl _)
  | (with_reducible exact LeO.none _)
  | (with_reducible refine LeO.ite ?_ ?_)
  | (with_reducible refine LeO.bind ?_ (fun _ => ?_))
  | exact ih0 _ _ _ _ _
  | exact span_below.mono _ _
  | exact LeO.none _
  | refine LeO.ite ?_ ?_
  | refine LeO.bind ?_ (fun _ => ?_)
def span_UOr.T3 : Bool × List (List Nat × List Nat) := (true, [([], []), ([0], [0]), ([], []), ([2], [2]), ([1, 3], [1, 3]), ([], []), ([5], [5]), ([], []), ([7], [7]), ([6, 8], [6, 8]), ([9], [9]), ([4, 10], [4, 10]), ([11, 10, 0, 1, 2, 3, 4, 5, 6, 7, 8, 9, 10, 11], [11])])
def span_UOr.B3 : List Nat := [0, 1, 0, 4, 15, 0, 32, 0, 128, 480, 992, 2047, 4095]
theorem span_UOr.tab3 : rtab .any (opsOf Try.f46 3) = span_UOr.T3 := by kernel_rfl
theorem span_UOr.bits3 : waitsOk span_UOr.T3.2 span_UOr.B3 = true := by kernel_rfl
set_option maxHeartbeats 8000000 in
set_option maxRecDepth 100000 in
theorem span_UOr.calls (k : Nat) (a0_0 : Int) (a0_1 : Int) (a1_0 : Int) (a1_1 : Int) (r1 : Int) (r2 : Int) (w : World) (h : span_UOr.f k a0_0 a0_1 a1_0 a1_1 = some (r1, r2)) :
 Calls Try.prog 46 #[.agg #[.int .u64 a0_0, .int .u64 a0_1], .agg #[.int .u64 a1_0, .int .u64 a1_1]] w fun e w' => e = .returned (.agg #[.int .u64 r1, .int .u64 r2]) ∧ Below w.heap.size w w' := by
 have hu26 := Try.underlying26
 have HB := Aside0.mk (Below.refl w.heap.size w)
 have H : ((span_alone.f a0_0 a0_1).bind fun t144 => (if t144 = true then ((span_alone.f a1_0 a1_1).bind fun t145 => (span_UOr.j0 k t145 a0_0 a0_1 a1_0 a1_1)) else (span_UOr.j0 k false a0_0 a0_1 a1_0 a1_1))) = some (r1, r2) := h
 clear h
 have HC3 := Aside0.mk H
 clear H
 go_enter Try.func46, Try.ntmps46
 go_upto_region 1 with (first | ((with_reducible refine gate_dst (N := 2) rfl ?_); refine bx_ 2 #[.int .u64 a0_0, .int .u64 a0_1] 26 ?_; intro gb141 hg w4 BK141 hb; have GW141 := bg_ hg; have GE141 := GW141; replace HB := bl_ hb; clear hb hg) | ((with_reducible refine gate_dst (N := 3) rfl ?_); refine bx_ 3 #[.int .u64 a1_0, .int .u64 a1_1] 26 ?_; intro gb142 hg w5 BK142 hb; have GW142 := bg_ hg; have GE142 := GW142; have NB141_142 := bm_ hg BK141; have NB142_141 := bn_ hg BK141; replace BK141 := bb_ hb BK141; replace HB := bl_ hb; clear hb hg) | ((with_reducible refine gate_dst (N := 4) rfl ?_); refine bx_ 4 #[.int .u64 0, .int .u64 0] 26 ?_; intro gb143 hg w6 BK143 hb; have GW143 := bg_ hg; have GE143 := GW143; have NB141_143 := bm_ hg BK141; have NB143_141 := bn_ hg BK141; have NB142_143 := bm_ hg BK142; have NB143_142 := bn_ hg BK142; replace BK141 := bb_ hb BK141; replace BK142 := bb_ hb BK142; replace HB := bl_ hb; clear hb hg))
 (try simp only [Act.put, s1_, s2_, s3_])
 go_cut [10] (fun v10 wc => ∃ (kq : Nat) (x10_2 : Bool), v10 = .bool x10_2 ∧ Aside0 (span_UOr.j0 kq x10_2 a0_0 a0_1 a1_0 a1_1 = some (r1, r2)) ∧ Aside0 (kq ≤ k) ∧ Aside0 (wc.heap[gb141]? = some (.cells #[.int .u64 a0_0, .int .u64 a0_1] 26 (0, 0))) ∧ Aside0 (wc.heap[gb142]? = some (.cells #[.int .u64 a1_0, .int .u64 a1_1] 26 (0, 0))) ∧ Aside0 (wc.heap[gb143]? = some (.cells #[.int .u64 0, .int .u64 0] 26 (0, 0))) ∧ Aside0 (Below w.heap.size w wc))
 case first =>
  have H := HC3.out
  clear HC3
  replace H := Option.bind_eq_some_iff.mp H
  obtain ⟨t144, A70, H⟩ := H
  replace H : (if t144 = true then ((span_alone.f a1_0 a1_1).bind fun t145 => (span_UOr.j0 k t145 a0_0 a0_1 a1_0 a1_1)) else (span_UOr.j0 k false a0_0 a0_1 a1_0 a1_1)) = some (r1, r2) := H
  have A7 := Aside0.mk A70
  clear A70
  by_cases c8 : t144 = true
  ·subst c8
   have H1 : ((span_alone.f a1_0 a1_1).bind fun t145 => (span_UOr.j0 k t145 a0_0 a0_1 a1_0 a1_1)) = some (r1, r2) := by rw [if_pos rfl] at H; exact H
   clear H
   have H := H1
   clear H1
   replace H := Option.bind_eq_some_iff.mp H
   obtain ⟨t145, A90, H⟩ := H
   replace H : (span_UOr.j0 k t145 a0_0 a0_1 a1_0 a1_1) = some (r1, r2) := H
   have A9 := Aside0.mk A90
   clear A90
   have H' := Aside0.mk H
   clear H
   have hnb10 := NB141_142.out
   have hnc10 := NB142_141.out
   have hnb11 := NB141_143.out
   have hnc11 := NB143_141.out
   have hcz12_0 := c0_ BK141
   have hcz12_1 := c1_ BK141
   have hfz12_0 := fz_ BK141 0
   have hfz12_1 := fz_ BK141 1
   go_wp2_with (first | ((with_reducible refine gate_callee (f := 89) rfl ?_); refine goesL_ (some 6) rfl rfl Try.func89 (by kernel_rfl) rfl #[.agg #[.int .u64 a0_0, .int .u64 a0_1]] rfl (by (try simp only [List.map_toArray, List.map_cons, List.map_nil]); first | done | rfl) ?_; (with_reducible refine (span_alone.calls a0_0 a0_1 true _ A7.out).mono ?_); rintro e w13 ⟨rfl, hb⟩; refine ⟨_, rfl, ?_⟩; replace BK141 := bb_ hb BK141; replace BK142 := bb_ hb BK142; replace BK143 := bb_ hb BK143; replace HB := bl_ hb; (try clear hb); (try clear hb2); (try clear hk); (try clear hi); have hnb14 := NB142_143.out; have hnc14 := NB143_142.out; have hcz15_0 := c0_ BK142; have hcz15_1 := c1_ BK142; have hfz15_0 := fz_ BK142 0; have hfz15_1 := fz_ BK142 1) | (go_at_call 89; (with_reducible refine (span_alone.calls a1_0 a1_1 t145 _ A9.out).mono ?_); rintro e w16 ⟨rfl, hb⟩; replace BK141 := bb_ hb BK141; replace BK142 := bb_ hb BK142; replace BK143 := bb_ hb BK143; replace HB := bl_ hb; (try clear hb); (try clear hb2); (try clear hk); (try clear hi)))
   go_meet
   case rel => exact ⟨_, (t145), (by first | rfl | (simp; done) | (simp [*]; done)), H', ⟨by first | omega | exact Nat.le_refl _⟩, ⟨by exact bk_⟩, ⟨by exact bk_⟩, ⟨by exact bk_⟩, ⟨by repeat (first | (with_reducible first | exact HB.out | apply lA_ | apply lN_ | apply lD_ | refine lS_ ?_ GE141.out | refine lS_ ?_ GE142.out | refine lS_ ?_ GE143.out) | exact HB.out)⟩⟩
  ·replace c8 := Bool.eq_false_iff.mpr c8
   subst c8
   have H1 : (span_UOr.j0 k false a0_0 a0_1 a1_0 a1_1) = some (r1, r2) := by rw [if_neg (show ¬ (false = true) by decide)] at H; exact H
   clear H
   have H := H1
   clear H1
   have H' := Aside0.mk H
   clear H
   have hnb17 := NB141_142.out
   have hnc17 := NB142_141.out
   have hnb18 := NB141_143.out
   have hnc18 := NB143_141.out
   have hcz19_0 := c0_ BK141
   have hcz19_1 := c1_ BK141
   have hfz19_0 := fz_ BK141 0
   have hfz19_1 := fz_ BK141 1
   go_wp2_with (first | ((with_reducible refine gate_callee (f := 89) rfl ?_); refine goesL_ (some 6) rfl rfl Try.func89 (by kernel_rfl) rfl #[.agg #[.int .u64 a0_0, .int .u64 a0_1]] rfl (by (try simp only [List.map_toArray, List.map_cons, List.map_nil]); first | done | rfl) ?_; (with_reducible refine (span_alone.calls a0_0 a0_1 false _ A7.out).mono ?_); rintro e w20 ⟨rfl, hb⟩; refine ⟨_, rfl, ?_⟩; replace BK141 := bb_ hb BK141; replace BK142 := bb_ hb BK142; replace BK143 := bb_ hb BK143; replace HB := bl_ hb; (try clear hb); (try clear hb2); (try clear hk); (try clear hi)))
   go_meet
   case rel => exact ⟨_, (false), (by first | rfl | (simp; done) | (simp [*]; done)), H', ⟨by first | omega | exact Nat.le_refl _⟩, ⟨by exact bk_⟩, ⟨by exact bk_⟩, ⟨by exact bk_⟩, ⟨by repeat (first | (with_reducible first | exact HB.out | apply lA_ | apply lN_ | apply lD_ | refine lS_ ?_ GE141.out | refine lS_ ?_ GE142.out | refine lS_ ?_ GE143.out) | exact HB.out)⟩⟩
 case rest =>
  clear HC3
  try clear c1
  try clear p2
  try clear c4
  try clear c8
  try clear c10
  try clear c11
  try clear c14
  try clear c17
  try clear c18
  try clear hcz12_0
  try clear hcz12_1
  try clear hcz15_0
  try clear hcz15_1
  try clear hcz19_0
  try clear hcz19_1
  try clear hfz12_0
  try clear hfz12_1
  try clear hfz15_0
  try clear hfz15_1
  try clear hfz19_0
  try clear hfz19_1
  obtain ⟨kq, x10_2, rfl, HA, HJ2, BK141, BK142, BK143, HB⟩ := hcut
  cases kq with
  | zero => exact absurd HA.out (by simp [span_UOr.j0])
  | succ kj2 =>
   have H := HA.out
   clear HA
   simp only [span_UOr.j0] at H
   by_cases c21 : x10_2 = true
   ·subst c21
    have H1 : ((span_UOf.f (Go.bits .or .u64 a0_0 a1_0)).bind fun bt146 => (some (bt146.1, bt146.2))) = some (r1, r2) := by rw [if_pos rfl] at H; exact H
    clear H
    have H := H1
    clear H1
    replace H := Option.bind_eq_some_iff.mp H
    obtain ⟨⟨t146, t147⟩, A220, H⟩ := H
    replace H : (some (t146, t147)) = some (r1, r2) := H
    have A22 := Aside0.mk A220
    clear A220
    simp only [Option.some.injEq, Prod.mk.injEq] at H
    obtain ⟨rfl, rfl⟩ := H
    have hnb23 := NB141_142.out
    have hnc23 := NB142_141.out
    have hnb24 := NB141_143.out
    have hnc24 := NB143_141.out
    have hcz25_0 := c0_ BK141
    have hcz25_1 := c1_ BK141
    have hfz25_0 := fz_ BK141 0
    have hfz25_1 := fz_ BK141 1
    have hnb26 := NB142_143.out
    have hnc26 := NB143_142.out
    have hcz27_0 := c0_ BK142
    have hcz27_1 := c1_ BK142
    have hfz27_0 := fz_ BK142 0
    have hfz27_1 := fz_ BK142 1
    go_wp2_with (first | ((with_reducible refine gate_callee (f := 42) rfl ?_); refine goesL_ (some 16) rfl rfl Try.func42 (by kernel_rfl) rfl #[.int .u64 (Go.bits .or .u64 a0_0 a1_0)] rfl (by (try simp only [List.map_toArray, List.map_cons, List.map_nil]); first | done | rfl) ?_; (with_reducible refine (span_UOf.calls (Go.bits .or .u64 a0_0 a1_0) t146 t147 _ A22.out).mono ?_); rintro e w28 ⟨rfl, hb⟩; refine ⟨_, rfl, ?_⟩; replace BK141 := bb_ hb BK141; replace BK142 := bb_ hb BK142; replace BK143 := bb_ hb BK143; replace HB := bl_ hb; (try clear hb); (try clear hb2); (try clear hk); (try clear hi); have hcz29_0 := c0_ BK143; have hcz29_1 := c1_ BK143; have hfz29_0 := fz_ BK143 0; have hfz29_1 := fz_ BK143 1))
    refine bodyPost_ret (results_cell_row rfl _ _ gb143 26 #[.int .u64 t146, .int .u64 t147] (0, 0) _ rfl (by (with_reducible repeat (first | apply bN_ | apply bD_ | apply bA_)); refine blk_put (cs := #[.int .u64 t146, .int .u64 0]) ?_ 1 _ rfl; (with_reducible repeat (first | apply bN_ | apply bD_ | apply bA_)); refine blk_put (cs := #[.int .u64 0, .int .u64 0]) ?_ 0 _ rfl; exact bk_) Try.underlying26 rfl (by kernel_rfl)) rfl ?_
    exact ⟨vv_, bz_⟩
   ·replace c21 := Bool.eq_false_iff.mpr c21
    subst c21
    have H1 : ((span_below.f kj2 (Go.bits .or .u64 a0_1 a1_1)).bind fun t148 => (some (mx a0_0 a1_0, t148))) = some (r1, r2) := by rw [if_neg (show ¬ (false = true) by decide)] at H; exact H
    clear H
    have H := H1
    clear H1
    obtain ⟨ji30, hji30⟩ : ∃ j_ : Int, (mx a0_0 a1_0) = j_ := ⟨_, rfl⟩
    replace H : ((span_below.f kj2 (Go.bits .or .u64 a0_1 a1_1)).bind fun t148 => (some (ji30, t148))) = some (r1, r2) := by first | (rw [hji30] at H; exact H) | (simp only [hji30] at H ⊢; exact H)
    have hji30_ : (if a0_0 < a1_0 then a1_0 else a0_0) = ji30 := hji30
    replace H := Option.bind_eq_some_iff.mp H
    obtain ⟨t148, A310, H⟩ := H
    replace H : (some (ji30, t148)) = some (r1, r2) := H
    have A31 := Aside0.mk A310
    clear A310
    simp only [Option.some.injEq, Prod.mk.injEq] at H
    obtain ⟨rfl, rfl⟩ := H
    try go_wp2
    replace BK141 := Aside0.mk (blk_drew BK141.out)
    replace BK142 := Aside0.mk (blk_drew BK142.out)
    replace BK143 := Aside0.mk (blk_drew BK143.out)
    replace HB := Aside0.mk (below_drew1 HB.out)
    refine start_ (n := 13) (S := fun w' => w'.cell? ⟨gb141, 0, none⟩ = some (.int .u64 a0_0) ∧ w'.cell? ⟨gb141, 1, none⟩ = some (.int .u64 a0_1) ∧ w'.cell? ⟨gb142, 0, none⟩ = some (.int .u64 a1_0) ∧ w'.cell? ⟨gb142, 1, none⟩ = some (.int .u64 a1_1)) (ds := []) #[n_,n_,n_,n_,n_,n_,n_,n_,n_,n_,n_,n_,n_] (by kernel_rfl) rfl rfl ⟨c0_ BK141, c1_ BK141, c0_ BK142, c1_ BK142⟩ (fun hHeld => ?_); refine with_tabW span_UOr.tab3 span_UOr.bits3 (fun HT_ HW_ => ?_)
    generalize wc.drew = w32 at BK141 BK142 BK143 HB hHeld ⊢
    refine pq_ 0 17 #[y_,n_,n_,n_,n_,n_,n_,n_,n_,n_,n_,n_,n_] ?_
    refine pq_ 2 19 #[y_,n_,y_,n_,n_,n_,n_,n_,n_,n_,n_,n_,n_] ?_
    refine pq_ 5 22 #[y_,n_,y_,n_,n_,y_,n_,n_,n_,n_,n_,n_,n_] ?_
    refine pq_ 7 24 #[y_,n_,y_,n_,n_,y_,n_,y_,n_,n_,n_,n_,n_] ?_
    refine tq1_ 1 18 #[y_,y_,y_,n_,n_,y_,n_,y_,n_,n_,n_,n_,n_] hHeld ?_
    refine tq1_ 3 20 #[y_,y_,y_,y_,n_,y_,n_,y_,n_,n_,n_,n_,n_] hHeld ?_
    refine pq_ 4 21 #[y_,y_,y_,y_,y_,y_,n_,y_,n_,n_,n_,n_,n_] ?_
    refine tq1_ 6 23 #[y_,y_,y_,y_,y_,y_,y_,y_,n_,n_,n_,n_,n_] hHeld ?_
    refine tq1_ 8 25 #[y_,y_,y_,y_,y_,y_,y_,y_,y_,n_,n_,n_,n_] hHeld ?_
    refine pq_ 9 26 #[y_,y_,y_,y_,y_,y_,y_,y_,y_,y_,n_,n_,n_] ?_
    refine one_ (i := 10) (N := some 27) #[y_,y_,y_,y_,y_,y_,y_,y_,y_,y_,y_,n_,n_] rfl rfl (one_of HT_.out (by kernel_rfl)) (by decide) (fun K hK => ?_)
    refine goes_ Try.func90 (by kernel_rfl) rfl #[.int .u64 (Go.bits .or .u64 a0_1 a1_1)] (by rfl) rfl rfl (by (try simp only [List.map_toArray, List.map_cons, List.map_nil]); first | done | rfl) ?_
    with_reducible refine (span_below.calls kj2 (Go.bits .or .u64 a0_1 a1_1) t148 _ A31.out).mono ?_
    rintro e w' ⟨rfl, ⟨nd, rfl⟩⟩
    refine ⟨_, rfl, ?_⟩
    refine hK.out _ _ ⟨c0_ BK141, c1_ BK141, c0_ BK142, c1_ BK142⟩ (fun hHeld => ?_)
    clear hK K
    refine norm_ (a' := ?_) ?_ ?_
    rotate_left
    ·show Act.put _ (some 27) _ = _
     simp only [Act.put, s1_, s2_, s3_, i64_w, i32_w]
     rfl
    refine pq_ 11 28 #[y_,y_,y_,y_,y_,y_,y_,y_,y_,y_,y_,y_,n_] ?_
    refine one_ (i := 12) (N := none) #[y_,y_,y_,y_,y_,y_,y_,y_,y_,y_,y_,y_,y_] rfl rfl (one_of HT_.out (by kernel_rfl)) (by decide) (fun K hK => ?_)
    have hs33 := c0_ BK143
    have hfs33 := fz_ BK143 0
    have hns33_0 := NB141_143.out
    have hns33_1 := NB142_143.out
    have hms33_0 := NB143_141.out
    have hms33_1 := NB143_142.out
    have hs34 := c1_ BK143
    have hfs34 := fz_ BK143 1
    have hns34_0 := NB141_143.out
    have hns34_1 := NB142_143.out
    have hms34_0 := NB143_141.out
    have hms34_1 := NB143_142.out
    refine skip_ (w1 := ?_) (by rfl) rfl ?_ ?_
    rotate_left
    ·go_simp
     rfl
    refine hK.out _ _ ⟨((cell_far (p := ⟨gb143, _, none⟩) NB141_143.out _).trans (((cell_far (p := ⟨gb143, _, none⟩) NB141_143.out _).trans (hHeld.1)))), ((cell_far (p := ⟨gb143, _, none⟩) NB141_143.out _).trans (((cell_far (p := ⟨gb143, _, none⟩) NB141_143.out _).trans (hHeld.2.1)))), ((cell_far (p := ⟨gb143, _, none⟩) NB142_143.out _).trans (((cell_far (p := ⟨gb143, _, none⟩) NB142_143.out _).trans (hHeld.2.2.1)))), ((cell_far (p := ⟨gb143, _, none⟩) NB142_143.out _).trans (((cell_far (p := ⟨gb143, _, none⟩) NB142_143.out _).trans (hHeld.2.2.2))))⟩ (fun hHeld => ?_)
    clear hK K
    refine done_ (done_of HT_.out (by kernel_rfl)) ?_
    try go_wp2
    refine bodyPost_ret (results_cell_row rfl _ _ gb143 26 #[.int .u64 ji30, .int .u64 t148] (0, 0) _ rfl (by (with_reducible repeat (first | apply bN_ | apply bD_ | apply bA_)); refine blk_put (cs := #[.int .u64 ji30, .int .u64 0]) ?_ 1 _ rfl; (with_reducible repeat (first | apply bN_ | apply bD_ | apply bA_)); refine blk_put (cs := #[.int .u64 0, .int .u64 0]) ?_ 0 _ rfl; exact bk_) Try.underlying26 rfl (by kernel_rfl)) rfl ?_
    exact ⟨by first | rfl | (simp [errW_none, errW_some] <;> rfl) | (simp only [← hji30]; first | rfl | (simp [errW_none, errW_some] <;> rfl)) | (simp [*, errW_none, errW_some] <;> rfl), bz_⟩

/-! ### span_between_uint64: function 76 -/
def span_between_uint64.f (a0 : Int) (a1 : Int) (a2 : Int) : Option (Bool) := if a0 ≤ a1 then (some (decide (a1 ≤ a2))) else (some false)
set_option maxHeartbeats 8000000 in
set_option maxRecDepth 100000 in
theorem span_between_uint64.calls (a0 : Int) (a1 : Int) (a2 : Int) (r : Bool) (w : World) (h : span_between_uint64.f a0 a1 a2 = some r) :
 Calls Try.prog 76 #[.int .u64 a0, .int .u64 a1, .int .u64 a2] w fun e w' => e = .returned (.bool r) ∧ Drawn0 w w' := by
 have H : (if a0 ≤ a1 then (some (decide (a1 ≤ a2))) else (some false)) = some r := h
 clear h
 by_cases c4 : a0 ≤ a1
 ·rw [if_pos c4] at H
  have c4b0 : decide (a0 ≤ a1) = true := decide_eq_true c4
  clear c4
  obtain rfl := Option.some.inj H
  go_enter Try.func76, Try.ntmps76
  go_wp2
  go_ret
  exact ⟨by first | rfl | (simp; done) | (simp [*]; done), by repeat (first | exact Drawn0.refl _ | apply Drawn0.step)⟩
 ·rw [if_neg c4] at H
  have c4b0 : decide (a0 ≤ a1) = false := decide_eq_false c4
  clear c4
  obtain rfl := Option.some.inj H
  go_enter Try.func76, Try.ntmps76
  go_wp2
  go_ret
  exact ⟨by first | rfl | (simp; done) | (simp [*]; done), by repeat (first | exact Drawn0.refl _ | apply Drawn0.step)⟩

/-! ### span_UIn: function 15 -/
def span_UIn.f (a0_0 : Int) (a0_1 : Int) (a1 : Int) : Option (Bool) := (span_between_uint64.f a0_0 a1 a0_1).bind fun t178 => (some t178)
set_option maxHeartbeats 8000000 in
set_option maxRecDepth 100000 in
theorem span_UIn.calls (a0_0 : Int) (a0_1 : Int) (a1 : Int) (r : Bool) (w : World) (h : span_UIn.f a0_0 a0_1 a1 = some r) :
 Calls Try.prog 15 #[.agg #[.int .u64 a0_0, .int .u64 a0_1], .int .u64 a1] w fun e w' => e = .returned (.bool r) ∧ Below w.heap.size w w' := by
 have hu26 := Try.underlying26
 have HB := Aside0.mk (Below.refl w.heap.size w)
 have H : ((span_between_uint64.f a0_0 a1 a0_1).bind fun t178 => (some t178)) = some r := h
 clear h
 replace H := Option.bind_eq_some_iff.mp H
 obtain ⟨t178, A30, H⟩ := H
 replace H : (some t178) = some r := H
 have A3 := Aside0.mk A30
 clear A30
 obtain rfl := Option.some.inj H
 go_enter Try.func15, Try.ntmps15
 go_wp2_with (first | ((with_reducible refine gate_dst (N := 2) rfl ?_); refine bx_ 2 #[.int .u64 a0_0, .int .u64 a0_1] 26 ?_; intro gb177 hg w4 BK177 hb; have GW177 := bg_ hg; have GE177 := GW177; replace HB := bl_ hb; clear hb hg; have hcz5_0 := c0_ BK177; have hcz5_1 := c1_ BK177; have hfz5_0 := fz_ BK177 0; have hfz5_1 := fz_ BK177 1) | ((with_reducible refine gate_callee (f := 76) rfl ?_); refine goesL_ (some 10) rfl rfl Try.func76 (by kernel_rfl) rfl #[.int .u64 a0_0, .int .u64 a1, .int .u64 a0_1] rfl (by (try simp only [List.map_toArray, List.map_cons, List.map_nil]); first | done | rfl) ?_; (with_reducible refine (span_between_uint64.calls a0_0 a1 a0_1 t178 _ A3.out).mono ?_); rintro e w' ⟨rfl, ⟨nd, rfl⟩⟩; refine ⟨_, rfl, ?_⟩))
 go_ret
 exact ⟨vv_, bz_⟩

/-! ### span_between_int64: function 77 -/
def span_between_int64.f (a0 : Int) (a1 : Int) (a2 : Int) : Option (Bool) := if a0 ≤ a1 then (some (decide (a1 ≤ a2))) else (some false)
set_option maxHeartbeats 8000000 in
set_option maxRecDepth 100000 in
theorem span_between_int64.calls (a0 : Int) (a1 : Int) (a2 : Int) (r : Bool) (w : World) (h : span_between_int64.f a0 a1 a2 = some r) :
 Calls Try.prog 77 #[.int .i64 a0, .int .i64 a1, .int .i64 a2] w fun e w' => e = .returned (.bool r) ∧ Drawn0 w w' := by
 have H : (if a0 ≤ a1 then (some (decide (a1 ≤ a2))) else (some false)) = some r := h
 clear h
 by_cases c4 : a0 ≤ a1
 ·rw [if_pos c4] at H
  have c4b0 : decide (a0 ≤ a1) = true := decide_eq_true c4
  clear c4
  obtain rfl := Option.some.inj H
  go_enter Try.func77, Try.ntmps77
  go_wp2
  go_ret
  exact ⟨by first | rfl | (simp; done) | (simp [*]; done), by repeat (first | exact Drawn0.refl _ | apply Drawn0.step)⟩
 ·rw [if_neg c4] at H
  have c4b0 : decide (a0 ≤ a1) = false := decide_eq_false c4
  clear c4
  obtain rfl := Option.some.inj H
  go_enter Try.func77, Try.ntmps77
  go_wp2
  go_ret
  exact ⟨by first | rfl | (simp; done) | (simp [*]; done), by repeat (first | exact Drawn0.refl _ | apply Drawn0.step)⟩

/-! ### span_SIn: function 16 -/
def span_SIn.f (a0_0 : Int) (a0_1 : Int) (a1 : Int) : Option (Bool) := (span_between_int64.f a0_0 (wrap64 (a1)) a0_1).bind fun t180 => (some t180)
set_option maxHeartbeats 8000000 in
set_option maxRecDepth 100000 in
theorem span_SIn.calls (a0_0 : Int) (a0_1 : Int) (a1 : Int) (r : Bool) (w : World) (h : span_SIn.f a0_0 a0_1 a1 = some r) :
 Calls Try.prog 16 #[.agg #[.int .i64 a0_0, .int .i64 a0_1], .int .u64 a1] w fun e w' => e = .returned (.bool r) ∧ Below w.heap.size w w' := by
 have hu28 := Try.underlying28
 have HB := Aside0.mk (Below.refl w.heap.size w)
 have H : ((span_between_int64.f a0_0 (wrap64 (a1)) a0_1).bind fun t180 => (some t180)) = some r := h
 clear h
 replace H := Option.bind_eq_some_iff.mp H
 obtain ⟨t180, A30, H⟩ := H
 replace H : (some t180) = some r := H
 have A3 := Aside0.mk A30
 clear A30
 obtain rfl := Option.some.inj H
 go_enter Try.func16, Try.ntmps16
 go_wp2_with (first | ((with_reducible refine gate_dst (N := 2) rfl ?_); refine bx_ 2 #[.int .i64 a0_0, .int .i64 a0_1] 28 ?_; intro gb179 hg w4 BK179 hb; have GW179 := bg_ hg; have GE179 := GW179; replace HB := bl_ hb; clear hb hg; have hcz5_0 := c0_ BK179; have hcz5_1 := c1_ BK179; have hfz5_0 := fz_ BK179 0; have hfz5_1 := fz_ BK179 1) | ((with_reducible refine gate_callee (f := 77) rfl ?_); refine goesL_ (some 11) rfl rfl Try.func77 (by kernel_rfl) rfl #[.int .i64 a0_0, .int .i64 (wrap64 (a1)), .int .i64 a0_1] rfl (by (try simp only [List.map_toArray, List.map_cons, List.map_nil]); first | done | rfl) ?_; (with_reducible refine (span_between_int64.calls a0_0 (wrap64 (a1)) a0_1 t180 _ A3.out).mono ?_); rintro e w' ⟨rfl, ⟨nd, rfl⟩⟩; refine ⟨_, rfl, ?_⟩))
 go_ret
 exact ⟨vv_, bz_⟩

/-! ### span_less: function 80 -/
def span_less.f (a0 : Int) (a1 : Int) : Option (Int × Bool) := some (wrap64 (a0 - a1), ((decide ((wrap64 (a0 - a1)) > a0)) == (decide (a1 < 0))))
set_option maxHeartbeats 8000000 in
set_option maxRecDepth 100000 in
theorem span_less.calls (a0 : Int) (a1 : Int) (r1 : Int) (r2 : Bool) (w : World) (h : span_less.f a0 a1 = some (r1, r2)) :
 Calls Try.prog 80 #[.int .i64 a0, .int .i64 a1] w fun e w' => e = .returned (.tuple #[.int .i64 r1, .bool r2]) ∧ Drawn0 w w' := by
 have H : (some (wrap64 (a0 - a1), ((decide ((wrap64 (a0 - a1)) > a0)) == (decide (a1 < 0))))) = some (r1, r2) := h
 clear h
 simp only [Option.some.injEq, Prod.mk.injEq] at H
 obtain ⟨rfl, rfl⟩ := H
 go_enter Try.func80, Try.ntmps80
 go_wp2
 go_ret2
 exact ⟨by first | rfl | (simp; done) | (simp [*]; done), by repeat (first | exact Drawn0.refl _ | apply Drawn0.step)⟩

/-! ### span_SSub: function 20 -/
def span_SSub.f (a0_0 : Int) (a0_1 : Int) (a1_0 : Int) (a1_1 : Int) : Option (Int × Int) := (span_less.f a0_0 a1_1).bind fun bt203 => ((span_less.f a0_1 a1_0).bind fun bt205 => ((span_ends.f bt203.1 bt203.2 bt205.1 bt205.2).bind fun bt207 => (some (bt207.1, bt207.2))))
set_option maxHeartbeats 8000000 in
set_option maxRecDepth 100000 in
theorem span_SSub.calls (a0_0 : Int) (a0_1 : Int) (a1_0 : Int) (a1_1 : Int) (r1 : Int) (r2 : Int) (w : World) (h : span_SSub.f a0_0 a0_1 a1_0 a1_1 = some (r1, r2)) :
 Calls Try.prog 20 #[.agg #[.int .i64 a0_0, .int .i64 a0_1], .agg #[.int .i64 a1_0, .int .i64 a1_1]] w fun e w' => e = .returned (.agg #[.int .i64 r1, .int .i64 r2]) ∧ Below w.heap.size w w' := by
 have hu28 := Try.underlying28
 have HB := Aside0.mk (Below.refl w.heap.size w)
 have H : ((span_less.f a0_0 a1_1).bind fun bt203 => ((span_less.f a0_1 a1_0).bind fun bt205 => ((span_ends.f bt203.1 bt203.2 bt205.1 bt205.2).bind fun bt207 => (some (bt207.1, bt207.2))))) = some (r1, r2) := h
 clear h
 replace H := Option.bind_eq_some_iff.mp H
 obtain ⟨⟨t203, t204⟩, A30, H⟩ := H
 replace H : ((span_less.f a0_1 a1_0).bind fun bt205 => ((span_ends.f t203 t204 bt205.1 bt205.2).bind fun bt207 => (some (bt207.1, bt207.2)))) = some (r1, r2) := H
 have A3 := Aside0.mk A30
 clear A30
 replace H := Option.bind_eq_some_iff.mp H
 obtain ⟨⟨t205, t206⟩, A40, H⟩ := H
 replace H : ((span_ends.f t203 t204 t205 t206).bind fun bt207 => (some (bt207.1, bt207.2))) = some (r1, r2) := H
 have A4 := Aside0.mk A40
 clear A40
 replace H := Option.bind_eq_some_iff.mp H
 obtain ⟨⟨t207, t208⟩, A50, H⟩ := H
 replace H : (some (t207, t208)) = some (r1, r2) := H
 have A5 := Aside0.mk A50
 clear A50
 simp only [Option.some.injEq, Prod.mk.injEq] at H
 obtain ⟨rfl, rfl⟩ := H
 go_enter Try.func20, Try.ntmps20
 go_wp2_with (first | ((with_reducible refine gate_dst (N := 2) rfl ?_); refine bx_ 2 #[.int .i64 a0_0, .int .i64 a0_1] 28 ?_; intro gb200 hg w6 BK200 hb; have GW200 := bg_ hg; have GE200 := GW200; replace HB := bl_ hb; clear hb hg) | ((with_reducible refine gate_dst (N := 3) rfl ?_); refine bx_ 3 #[.int .i64 a1_0, .int .i64 a1_1] 28 ?_; intro gb201 hg w7 BK201 hb; have GW201 := bg_ hg; have GE201 := GW201; have NB200_201 := bm_ hg BK200; have NB201_200 := bn_ hg BK200; replace BK200 := bb_ hb BK200; replace HB := bl_ hb; clear hb hg) | ((with_reducible refine gate_dst (N := 4) rfl ?_); refine bx_ 4 #[.int .i64 0, .int .i64 0] 28 ?_; intro gb202 hg w8 BK202 hb; have GW202 := bg_ hg; have GE202 := GW202; have NB200_202 := bm_ hg BK200; have NB202_200 := bn_ hg BK200; have NB201_202 := bm_ hg BK201; have NB202_201 := bn_ hg BK201; replace BK200 := bb_ hb BK200; replace BK201 := bb_ hb BK201; replace HB := bl_ hb; clear hb hg; have hnb9 := NB200_201.out; have hnc9 := NB201_200.out; have hnb10 := NB200_202.out; have hnc10 := NB202_200.out; have hcz11_0 := c0_ BK200; have hcz11_1 := c1_ BK200; have hfz11_0 := fz_ BK200 0; have hfz11_1 := fz_ BK200 1; have hnb12 := NB201_202.out; have hnc12 := NB202_201.out; have hcz13_0 := c0_ BK201; have hcz13_1 := c1_ BK201; have hfz13_0 := fz_ BK201 0; have hfz13_1 := fz_ BK201 1) | ((with_reducible refine gate_callee (f := 80) rfl ?_); refine goesL_ (some 14) rfl rfl Try.func80 (by kernel_rfl) rfl #[.int .i64 a0_0, .int .i64 a1_1] rfl (by (try simp only [List.map_toArray, List.map_cons, List.map_nil]); first | done | rfl) ?_; (with_reducible refine (span_less.calls a0_0 a1_1 t203 t204 _ A3.out).mono ?_); rintro e w' ⟨rfl, ⟨nd, rfl⟩⟩; refine ⟨_, rfl, ?_⟩; (try (rw [drewN_self w8]; generalize hq_ : World.drewN w8 _ = w8; have n0_ : Aside0 (w8.heap[gb200]? = some (.cells #[.int .i64 a0_0, .int .i64 a0_1] 28 (0, 0))) := ⟨by rw [← hq_]; exact (by exact bk_)⟩; have n1_ : Aside0 (w8.heap[gb201]? = some (.cells #[.int .i64 a1_0, .int .i64 a1_1] 28 (0, 0))) := ⟨by rw [← hq_]; exact (by exact bk_)⟩; have n2_ : Aside0 (w8.heap[gb202]? = some (.cells #[.int .i64 0, .int .i64 0] 28 (0, 0))) := ⟨by rw [← hq_]; exact (by exact bk_)⟩; have n3_ : Aside0 (Below w.heap.size w w8) := ⟨by rw [← hq_]; exact (by repeat (first | (with_reducible first | exact HB.out | apply lA_ | apply lN_ | apply lD_ | refine lS_ ?_ GE200.out | refine lS_ ?_ GE201.out | refine lS_ ?_ GE202.out) | exact HB.out))⟩; clear BK200 BK201 BK202 HB hq_; have BK200 := n0_; have BK201 := n1_; have BK202 := n2_; have HB := n3_; clear n0_ n1_ n2_ n3_)); have hcygb200_0 := c0_ BK200; have hfygb200_0 := fz_ BK200 0; have hcygb200_1 := c1_ BK200; have hfygb200_1 := fz_ BK200 1; have hcygb201_0 := c0_ BK201; have hfygb201_0 := fz_ BK201 0; have hcygb201_1 := c1_ BK201; have hfygb201_1 := fz_ BK201 1; have hcygb202_0 := c0_ BK202; have hfygb202_0 := fz_ BK202 0; have hcygb202_1 := c1_ BK202; have hfygb202_1 := fz_ BK202 1) | ((with_reducible refine gate_callee (f := 80) rfl ?_); refine goesL_ (some 22) rfl rfl Try.func80 (by kernel_rfl) rfl #[.int .i64 a0_1, .int .i64 a1_0] rfl (by (try simp only [List.map_toArray, List.map_cons, List.map_nil]); first | done | rfl) ?_; (with_reducible refine (span_less.calls a0_1 a1_0 t205 t206 _ A4.out).mono ?_); rintro e w' ⟨rfl, ⟨nd, rfl⟩⟩; refine ⟨_, rfl, ?_⟩; (try (rw [drewN_self w8]; generalize hq_ : World.drewN w8 _ = w8; have n0_ : Aside0 (w8.heap[gb200]? = some (.cells #[.int .i64 a0_0, .int .i64 a0_1] 28 (0, 0))) := ⟨by rw [← hq_]; exact (by exact bk_)⟩; have n1_ : Aside0 (w8.heap[gb201]? = some (.cells #[.int .i64 a1_0, .int .i64 a1_1] 28 (0, 0))) := ⟨by rw [← hq_]; exact (by exact bk_)⟩; have n2_ : Aside0 (w8.heap[gb202]? = some (.cells #[.int .i64 0, .int .i64 0] 28 (0, 0))) := ⟨by rw [← hq_]; exact (by exact bk_)⟩; have n3_ : Aside0 (Below w.heap.size w w8) := ⟨by rw [← hq_]; exact (by repeat (first | (with_reducible first | exact HB.out | apply lA_ | apply lN_ | apply lD_ | refine lS_ ?_ GE200.out | refine lS_ ?_ GE201.out | refine lS_ ?_ GE202.out) | exact HB.out))⟩; clear BK200 BK201 BK202 HB hq_; have BK200 := n0_; have BK201 := n1_; have BK202 := n2_; have HB := n3_; clear n0_ n1_ n2_ n3_)); have hcygb200_0 := c0_ BK200; have hfygb200_0 := fz_ BK200 0; have hcygb200_1 := c1_ BK200; have hfygb200_1 := fz_ BK200 1; have hcygb201_0 := c0_ BK201; have hfygb201_0 := fz_ BK201 0; have hcygb201_1 := c1_ BK201; have hfygb201_1 := fz_ BK201 1; have hcygb202_0 := c0_ BK202; have hfygb202_0 := fz_ BK202 0; have hcygb202_1 := c1_ BK202; have hfygb202_1 := fz_ BK202 1) | ((with_reducible refine gate_callee (f := 79) rfl ?_); refine goesL_ (some 29) rfl rfl Try.func79 (by kernel_rfl) rfl #[.int .i64 t203, .bool t204, .int .i64 t205, .bool t206] rfl (by (try simp only [List.map_toArray, List.map_cons, List.map_nil]); first | done | rfl) ?_; (with_reducible refine (span_ends.calls t203 t204 t205 t206 t207 t208 _ A5.out).mono ?_); rintro e w14 ⟨rfl, hb⟩; refine ⟨_, rfl, ?_⟩; replace BK200 := bb_ hb BK200; replace BK201 := bb_ hb BK201; replace BK202 := bb_ hb BK202; replace HB := bl_ hb; (try clear hb); (try clear hb2); (try clear hk); (try clear hi); have hcz15_0 := c0_ BK202; have hcz15_1 := c1_ BK202; have hfz15_0 := fz_ BK202 0; have hfz15_1 := fz_ BK202 1))
 refine bodyPost_ret (results_cell_row rfl _ _ gb202 28 #[.int .i64 t207, .int .i64 t208] (0, 0) _ rfl (by (with_reducible repeat (first | apply bN_ | apply bD_ | apply bA_)); refine blk_put (cs := #[.int .i64 t207, .int .i64 0]) ?_ 1 _ rfl; (with_reducible repeat (first | apply bN_ | apply bD_ | apply bA_)); refine blk_put (cs := #[.int .i64 0, .int .i64 0]) ?_ 0 _ rfl; exact bk_) Try.underlying28 rfl (by kernel_rfl)) rfl ?_
 exact ⟨vv_, bz_⟩

end Go.Proofs.Ytnephcecobocdaa.PA
