-- PRINTED by print.py (a twelfth state) out of the translation. Not trusted: Lean checks it.
import Derived.Test.YtnephcecobocdaaWTab
import Derived.Test.YtnephcecobocdaaPA0
import Derived.Test.YtnephcecobocdaaSq
import Derived.Test.YtnephcecobocdaaPA18
import Derived.Test.YtnephcecobocdaaPA19
import Derived.Test.YtnephcecobocdaaPA21
namespace Go.Proofs.Ytnephcecobocdaa.PA
open Go.RowKit Go.Proofs.YtnephcecobocdaaW.PrintWords Go.Proofs.YtnephcecobocdaaW.PrintLast Go.Proofs.YtnephcecobocdaaW.PrintMore
attribute [local go_sem] max2_int min2_int max_two min_two max_three min_three max_four min_four   -- for this text's walks alone
set_option linter.unusedVariables false
set_option linter.unusedSimpArgs false

/-! ### lockgateref04_UOr: function 66 -/
mutual
def lockgateref04_UOr.j0 : Nat → Bool → Int → Int → Int → Int → Option (Int × Int)
 | 0, _, _, _, _, _ => none
 | k + 1, x11, x677000, x677001, x678000, x678001 => if x11 = true then ((lockgateref04_UOf.f (Go.bits .or .u64 x677000 x678000)).bind fun bt681 => (some (bt681.1, bt681.2))) else ((lockgateref04_full.f k x677001).bind fun t683 => (if x678000 > x677000 then (lockgateref04_UOr.j1 k x678000 x678001 x678000 t683) else (lockgateref04_UOr.j1 k x678000 x678001 x677000 t683)))
def lockgateref04_UOr.j1 : Nat → Int → Int → Int → Int → Option (Int × Int)
 | 0, _, _, _, _ => none
 | k + 1, x678000, x678001, x685000, x685001 => (lockgateref04_full.f k x678001).bind fun t685 => (if t685 > x685001 then ((lockgateref04_full.f k x678001).bind fun t686 => (some (x685000, t686))) else (some (x685000, x685001)))
end
def lockgateref04_UOr.f (k : Nat) (a0_0 : Int) (a0_1 : Int) (a1_0 : Int) (a1_1 : Int) : Option (Int × Int) := (lockgateref04_alone.f a0_0 a0_1).bind fun t679 => (if t679 = true then ((lockgateref04_alone.f a1_0 a1_1).bind fun t680 => (lockgateref04_UOr.j0 k t680 a0_0 a0_1 a1_0 a1_1)) else (lockgateref04_UOr.j0 k false a0_0 a0_1 a1_0 a1_1))
theorem lockgateref04_UOr.mono_l : ∀ k, (∀ y0 y1 y2 y3 y4, LeO (lockgateref04_UOr.j0 k y0 y1 y2 y3 y4) (lockgateref04_UOr.j0 (k + 1) y0 y1 y2 y3 y4)) ∧ (∀ y0 y1 y2 y3, LeO (lockgateref04_UOr.j1 k y0 y1 y2 y3) (lockgateref04_UOr.j1 (k + 1) y0 y1 y2 y3))
 | 0 => ⟨fun _ _ _ _ _ r h => by simp [lockgateref04_UOr.j0] at h, fun _ _ _ _ r h => by simp [lockgateref04_UOr.j1] at h⟩
 | k + 1 => by
  obtain ⟨ih0, ih1⟩ := lockgateref04_UOr.mono_l k
  refine ⟨?_, ?_⟩
  ·intro y0 y1 y2 y3 y4
   unfold lockgateref04_UOr.j0
   repeat' first
   | (with_reducible exact ih0 _ _ _ _ _)
   | (with_reducible exact ih1 _ _ _ _)
   | (with_reducible exact lockgateref04_full.mono _ _)
   | (with_reducible exact LeO.refl _)
   | (with_reducible exact LeO.none _)
   | (with_reducible refine LeO.ite ?_ ?_)
   | (with_reducible refine LeO.bind ?_ (fun _ => ?_))
   | exact ih0 _ _ _ _ _
   | exact ih1 _ _ _ _
   | exact lockgateref04_full.mono _ _
   | exact LeO.none _
   | refine LeO.ite ?_ ?_
   | refine LeO.bind ?_ (fun _ => ?_)
  ·intro y0 y1 y2 y3
   unfold lockgateref04_UOr.j1
   repeat' first
   | (with_reducible exact ih0 _ _ _ _ _)
   | (with_reducible exact ih1 _ _ _ _)
   | (with_reducible exact lockgateref04_full.mono _ _)
   | (with_reducible exact LeO.refl _)
   | (with_reducible exact LeO.none _)
   | (with_reducible refine LeO.ite ?_ ?_)
   | (with_reducible refine LeO.bind ?_ (fun _ => ?_))
   | exact ih0 _ _ _ _ _
   | exact ih1 _ _ _ _
   | exact lockgateref04_full.mono _ _
   | exact LeO.none _
   | refine LeO.ite ?_ ?_
   | refine LeO.bind ?_ (fun _ => ?_)
theorem lockgateref04_UOr.mono : ∀ a0 a1 a2 a3 k, LeO (lockgateref04_UOr.f k a0 a1 a2 a3) (lockgateref04_UOr.f (k + 1) a0 a1 a2 a3) := by
 intro a0 a1 a2 a3 k
 obtain ⟨ih0, ih1⟩ := lockgateref04_UOr.mono_l k
 unfold lockgateref04_UOr.f
 repeat' first
  | (with_reducible exact ih0 _ _ _ _ _)
  | (with_reducible exact ih1 _ _ _ _)
  | (with_reducible exact lockgateref04_full.mono _ _)
  | (with_reducible exact LeO.refl _)
  | (with_reducible exact LeO.none _)
  | (with_reducible refine LeO.ite ?_ ?_)
  | (with_reducible refine LeO.bind ?_ (fun _ => ?_))
  | exact ih0 _ _ _ _ _
  | exact ih1 _ _ _ _
  | exact lockgateref04_full.mono _ _
  | exact LeO.none _
  | refine LeO.ite ?_ ?_
  | refine LeO.bind ?_ (fun _ => ?_)
def lockgateref04_UOr.T3 : Bool × List (List Nat × List Nat) := (true, [([], []), ([0], [0]), ([], []), ([2], [2]), ([3], [3]), ([1, 4], [1, 4]), ([], []), ([6, 5, 4, 0, 1, 2, 3, 4, 5, 6], [5, 6])])
def lockgateref04_UOr.B3 : List Nat := [0, 1, 0, 4, 12, 31, 0, 127]
theorem lockgateref04_UOr.tab3 : rtab .any (opsOf Try.f66 3) = lockgateref04_UOr.T3 := by kernel_rfl
theorem lockgateref04_UOr.bits3 : waitsOk lockgateref04_UOr.T3.2 lockgateref04_UOr.B3 = true := by kernel_rfl
set_option maxHeartbeats 8000000 in
set_option maxRecDepth 100000 in
theorem lockgateref04_UOr.calls (k : Nat) (a0_0 : Int) (a0_1 : Int) (a1_0 : Int) (a1_1 : Int) (r1 : Int) (r2 : Int) (w : World) (h : lockgateref04_UOr.f k a0_0 a0_1 a1_0 a1_1 = some (r1, r2)) :
 Calls Try.prog 66 #[.agg #[.int .u64 a0_0, .int .u64 a0_1], .agg #[.int .u64 a1_0, .int .u64 a1_1]] w fun e w' => e = .returned (.agg #[.int .u64 r1, .int .u64 r2]) ∧ Below w.heap.size w w' := by
 have hu26 := Try.underlying26
 have HB := Aside0.mk (Below.refl w.heap.size w)
 have H : ((lockgateref04_alone.f a0_0 a0_1).bind fun t679 => (if t679 = true then ((lockgateref04_alone.f a1_0 a1_1).bind fun t680 => (lockgateref04_UOr.j0 k t680 a0_0 a0_1 a1_0 a1_1)) else (lockgateref04_UOr.j0 k false a0_0 a0_1 a1_0 a1_1))) = some (r1, r2) := h
 clear h
 have HC3 := Aside0.mk H
 clear H
 go_enter Try.func66, Try.ntmps66
 go_upto_region 1 with (first | ((with_reducible refine gate_dst (N := 2) rfl ?_); refine bx_ 2 #[.int .u64 a0_0, .int .u64 a0_1] 26 ?_; intro gb676 hg w4 BK676 hb; have GW676 := bg_ hg; have GE676 := GW676; replace HB := bl_ hb; clear hb hg) | ((with_reducible refine gate_dst (N := 3) rfl ?_); refine bx_ 3 #[.int .u64 a1_0, .int .u64 a1_1] 26 ?_; intro gb677 hg w5 BK677 hb; have GW677 := bg_ hg; have GE677 := GW677; have NB676_677 := bm_ hg BK676; have NB677_676 := bn_ hg BK676; replace BK676 := bb_ hb BK676; replace HB := bl_ hb; clear hb hg) | ((with_reducible refine gate_dst (N := 4) rfl ?_); refine bx_ 4 #[.int .u64 0, .int .u64 0] 26 ?_; intro gb678 hg w6 BK678 hb; have GW678 := bg_ hg; have GE678 := GW678; have NB676_678 := bm_ hg BK676; have NB678_676 := bn_ hg BK676; have NB677_678 := bm_ hg BK677; have NB678_677 := bn_ hg BK677; replace BK676 := bb_ hb BK676; replace BK677 := bb_ hb BK677; replace HB := bl_ hb; clear hb hg))
 (try simp only [Act.put, s1_, s2_, s3_])
 go_cut [11] (fun v11 wc => ∃ (kq : Nat) (x11_2 : Bool), v11 = .bool x11_2 ∧ Aside0 (lockgateref04_UOr.j0 kq x11_2 a0_0 a0_1 a1_0 a1_1 = some (r1, r2)) ∧ Aside0 (kq ≤ k) ∧ Aside0 (wc.heap[gb676]? = some (.cells #[.int .u64 a0_0, .int .u64 a0_1] 26 (0, 0))) ∧ Aside0 (wc.heap[gb677]? = some (.cells #[.int .u64 a1_0, .int .u64 a1_1] 26 (0, 0))) ∧ Aside0 (wc.heap[gb678]? = some (.cells #[.int .u64 0, .int .u64 0] 26 (0, 0))) ∧ Aside0 (Below w.heap.size w wc))
 case first =>
  have H := HC3.out
  clear HC3
  replace H := Option.bind_eq_some_iff.mp H
  obtain ⟨t679, A70, H⟩ := H
  replace H : (if t679 = true then ((lockgateref04_alone.f a1_0 a1_1).bind fun t680 => (lockgateref04_UOr.j0 k t680 a0_0 a0_1 a1_0 a1_1)) else (lockgateref04_UOr.j0 k false a0_0 a0_1 a1_0 a1_1)) = some (r1, r2) := H
  have A7 := Aside0.mk A70
  clear A70
  by_cases c8 : t679 = true
  ·subst c8
   have H1 : ((lockgateref04_alone.f a1_0 a1_1).bind fun t680 => (lockgateref04_UOr.j0 k t680 a0_0 a0_1 a1_0 a1_1)) = some (r1, r2) := by rw [if_pos rfl] at H; exact H
   clear H
   have H := H1
   clear H1
   replace H := Option.bind_eq_some_iff.mp H
   obtain ⟨t680, A90, H⟩ := H
   replace H : (lockgateref04_UOr.j0 k t680 a0_0 a0_1 a1_0 a1_1) = some (r1, r2) := H
   have A9 := Aside0.mk A90
   clear A90
   have H' := Aside0.mk H
   clear H
   have hnb10 := NB676_677.out
   have hnc10 := NB677_676.out
   have hnb11 := NB676_678.out
   have hnc11 := NB678_676.out
   have hcz12_0 := c0_ BK676
   have hcz12_1 := c1_ BK676
   have hfz12_0 := fz_ BK676 0
   have hfz12_1 := fz_ BK676 1
   go_wp2_with (first | ((with_reducible refine gate_callee (f := 92) rfl ?_); refine goesL_ (some 7) rfl rfl Try.func92 (by kernel_rfl) rfl #[.agg #[.int .u64 a0_0, .int .u64 a0_1]] rfl (by (try simp only [List.map_toArray, List.map_cons, List.map_nil]); first | done | rfl) ?_; (with_reducible refine (lockgateref04_alone.calls a0_0 a0_1 true _ A7.out).mono ?_); rintro e w13 ⟨rfl, hb⟩; refine ⟨_, rfl, ?_⟩; replace BK676 := bb_ hb BK676; replace BK677 := bb_ hb BK677; replace BK678 := bb_ hb BK678; replace HB := bl_ hb; (try clear hb); (try clear hb2); (try clear hk); (try clear hi); have hnb14 := NB677_678.out; have hnc14 := NB678_677.out; have hcz15_0 := c0_ BK677; have hcz15_1 := c1_ BK677; have hfz15_0 := fz_ BK677 0; have hfz15_1 := fz_ BK677 1) | (go_at_call 92; (with_reducible refine (lockgateref04_alone.calls a1_0 a1_1 t680 _ A9.out).mono ?_); rintro e w16 ⟨rfl, hb⟩; replace BK676 := bb_ hb BK676; replace BK677 := bb_ hb BK677; replace BK678 := bb_ hb BK678; replace HB := bl_ hb; (try clear hb); (try clear hb2); (try clear hk); (try clear hi)))
   go_meet
   case rel => exact ⟨_, (t680), (by first | rfl | (simp; done) | (simp [*]; done)), H', ⟨by first | omega | exact Nat.le_refl _⟩, ⟨by exact bk_⟩, ⟨by exact bk_⟩, ⟨by exact bk_⟩, ⟨by repeat (first | (with_reducible first | exact HB.out | apply lA_ | apply lN_ | apply lD_ | refine lS_ ?_ GE676.out | refine lS_ ?_ GE677.out | refine lS_ ?_ GE678.out) | exact HB.out)⟩⟩
  ·replace c8 := Bool.eq_false_iff.mpr c8
   subst c8
   have H1 : (lockgateref04_UOr.j0 k false a0_0 a0_1 a1_0 a1_1) = some (r1, r2) := by rw [if_neg (show ¬ (false = true) by decide)] at H; exact H
   clear H
   have H := H1
   clear H1
   have H' := Aside0.mk H
   clear H
   have hnb17 := NB676_677.out
   have hnc17 := NB677_676.out
   have hnb18 := NB676_678.out
   have hnc18 := NB678_676.out
   have hcz19_0 := c0_ BK676
   have hcz19_1 := c1_ BK676
   have hfz19_0 := fz_ BK676 0
   have hfz19_1 := fz_ BK676 1
   go_wp2_with (first | ((with_reducible refine gate_callee (f := 92) rfl ?_); refine goesL_ (some 7) rfl rfl Try.func92 (by kernel_rfl) rfl #[.agg #[.int .u64 a0_0, .int .u64 a0_1]] rfl (by (try simp only [List.map_toArray, List.map_cons, List.map_nil]); first | done | rfl) ?_; (with_reducible refine (lockgateref04_alone.calls a0_0 a0_1 false _ A7.out).mono ?_); rintro e w20 ⟨rfl, hb⟩; refine ⟨_, rfl, ?_⟩; replace BK676 := bb_ hb BK676; replace BK677 := bb_ hb BK677; replace BK678 := bb_ hb BK678; replace HB := bl_ hb; (try clear hb); (try clear hb2); (try clear hk); (try clear hi)))
   go_meet
   case rel => exact ⟨_, (false), (by first | rfl | (simp; done) | (simp [*]; done)), H', ⟨by first | omega | exact Nat.le_refl _⟩, ⟨by exact bk_⟩, ⟨by exact bk_⟩, ⟨by exact bk_⟩, ⟨by repeat (first | (with_reducible first | exact HB.out | apply lA_ | apply lN_ | apply lD_ | refine lS_ ?_ GE676.out | refine lS_ ?_ GE677.out | refine lS_ ?_ GE678.out) | exact HB.out)⟩⟩
 case rest =>
  clear HC3
  try clear c1
  try clear p2
  try clear c6
  try clear c8
  try clear c9
  try clear c10
  try clear c11
  try clear c14
  try clear c17
  try clear c18
  try clear hcz12_0
  try clear hcz12_1
  try clear hcz15_0
  try clear hcz15_1
  try clear hcz19_0
  try clear hcz19_1
  try clear hfz12_0
  try clear hfz12_1
  try clear hfz15_0
  try clear hfz15_1
  try clear hfz19_0
  try clear hfz19_1
  obtain ⟨kq, x11_2, rfl, HA, HJ2, BK676, BK677, BK678, HB⟩ := hcut
  cases kq with
  | zero => exact absurd HA.out (by simp [lockgateref04_UOr.j0])
  | succ kj2 =>
   have H := HA.out
   clear HA
   simp only [lockgateref04_UOr.j0] at H
   by_cases c21 : x11_2 = true
   ·subst c21
    have H1 : ((lockgateref04_UOf.f (Go.bits .or .u64 a0_0 a1_0)).bind fun bt681 => (some (bt681.1, bt681.2))) = some (r1, r2) := by rw [if_pos rfl] at H; exact H
    clear H
    have H := H1
    clear H1
    replace H := Option.bind_eq_some_iff.mp H
    obtain ⟨⟨t681, t682⟩, A220, H⟩ := H
    replace H : (some (t681, t682)) = some (r1, r2) := H
    have A22 := Aside0.mk A220
    clear A220
    simp only [Option.some.injEq, Prod.mk.injEq] at H
    obtain ⟨rfl, rfl⟩ := H
    have hnb23 := NB676_677.out
    have hnc23 := NB677_676.out
    have hnb24 := NB676_678.out
    have hnc24 := NB678_676.out
    have hcz25_0 := c0_ BK676
    have hcz25_1 := c1_ BK676
    have hfz25_0 := fz_ BK676 0
    have hfz25_1 := fz_ BK676 1
    have hnb26 := NB677_678.out
    have hnc26 := NB678_677.out
    have hcz27_0 := c0_ BK677
    have hcz27_1 := c1_ BK677
    have hfz27_0 := fz_ BK677 0
    have hfz27_1 := fz_ BK677 1
    go_wp2_with (first | ((with_reducible refine gate_callee (f := 74) rfl ?_); refine goesL_ (some 17) rfl rfl Try.func74 (by kernel_rfl) rfl #[.int .u64 (Go.bits .or .u64 a0_0 a1_0)] rfl (by (try simp only [List.map_toArray, List.map_cons, List.map_nil]); first | done | rfl) ?_; (with_reducible refine (lockgateref04_UOf.calls (Go.bits .or .u64 a0_0 a1_0) t681 t682 _ A22.out).mono ?_); rintro e w28 ⟨rfl, hb⟩; refine ⟨_, rfl, ?_⟩; replace BK676 := bb_ hb BK676; replace BK677 := bb_ hb BK677; replace BK678 := bb_ hb BK678; replace HB := bl_ hb; (try clear hb); (try clear hb2); (try clear hk); (try clear hi); have hcz29_0 := c0_ BK678; have hcz29_1 := c1_ BK678; have hfz29_0 := fz_ BK678 0; have hfz29_1 := fz_ BK678 1))
    refine bodyPost_ret (results_cell_row rfl _ _ gb678 26 #[.int .u64 t681, .int .u64 t682] (0, 0) _ rfl (by (with_reducible repeat (first | apply bN_ | apply bD_ | apply bA_)); refine blk_put (cs := #[.int .u64 t681, .int .u64 0]) ?_ 1 _ rfl; (with_reducible repeat (first | apply bN_ | apply bD_ | apply bA_)); refine blk_put (cs := #[.int .u64 0, .int .u64 0]) ?_ 0 _ rfl; exact bk_) Try.underlying26 rfl (by kernel_rfl)) rfl ?_
    exact ⟨vv_, bz_⟩
   ·replace c21 := Bool.eq_false_iff.mpr c21
    subst c21
    have H1 : ((lockgateref04_full.f kj2 a0_1).bind fun t683 => (if a1_0 > a0_0 then (lockgateref04_UOr.j1 kj2 a1_0 a1_1 a1_0 t683) else (lockgateref04_UOr.j1 kj2 a1_0 a1_1 a0_0 t683))) = some (r1, r2) := by rw [if_neg (show ¬ (false = true) by decide)] at H; exact H
    clear H
    have H := H1
    clear H1
    replace H := Option.bind_eq_some_iff.mp H
    obtain ⟨t683, A300, H⟩ := H
    replace H : (if a1_0 > a0_0 then (lockgateref04_UOr.j1 kj2 a1_0 a1_1 a1_0 t683) else (lockgateref04_UOr.j1 kj2 a1_0 a1_1 a0_0 t683)) = some (r1, r2) := H
    have A30 := Aside0.mk A300
    clear A300
    have HC31 := Aside0.mk H
    clear H
    try go_wp2
    replace BK676 := Aside0.mk (blk_drew BK676.out)
    replace BK677 := Aside0.mk (blk_drew BK677.out)
    replace BK678 := Aside0.mk (blk_drew BK678.out)
    replace HB := Aside0.mk (below_drew1 HB.out)
    refine start_ (n := 8) (S := fun w' => w'.cell? ⟨gb676, 0, none⟩ = some (.int .u64 a0_0) ∧ w'.cell? ⟨gb676, 1, none⟩ = some (.int .u64 a0_1)) (ds := []) #[n_,n_,n_,n_,n_,n_,n_,n_] (by kernel_rfl) rfl rfl ⟨c0_ BK676, c1_ BK676⟩ (fun hHeld => ?_); refine with_tabW lockgateref04_UOr.tab3 lockgateref04_UOr.bits3 (fun HT_ HW_ => ?_)
    generalize wc.drew = w32 at BK676 BK677 BK678 HB hHeld ⊢
    refine pq_ 0 18 #[y_,n_,n_,n_,n_,n_,n_,n_] ?_
    refine pq_ 2 20 #[y_,n_,y_,n_,n_,n_,n_,n_] ?_
    refine tq0_ 1 19 #[y_,y_,y_,n_,n_,n_,n_,n_] hHeld ?_
    refine tq0_ 3 21 #[y_,y_,y_,y_,n_,n_,n_,n_] hHeld ?_
    refine join_ (σ := Nat) 1 #[y_,y_,y_,y_,y_,y_,y_,n_] (fun s_ => [(22, .int .u64 t683), (5, .pointer (some ⟨s_, 0, none⟩)), (23, .agg #[.int .u64 a0_0, .int .u64 t683])]) (fun s_ w' => (w'.cell? ⟨gb676, 0, none⟩ = some (.int .u64 a0_0) ∧ w'.cell? ⟨gb676, 1, none⟩ = some (.int .u64 a0_1)) ∧ (w'.heap[gb676]? = some (.cells #[.int .u64 a0_0, .int .u64 a0_1] 26 (0, 0))) ∧ (w'.heap[gb677]? = some (.cells #[.int .u64 a1_0, .int .u64 a1_1] 26 (0, 0))) ∧ (w'.heap[gb678]? = some (.cells #[.int .u64 0, .int .u64 0] 26 (0, 0))) ∧ (w'.heap[s_]? = some (.cells #[.int .u64 0, .int .u64 0] 26 (0, 0))) ∧ (w.heap.size ≤ s_) ∧ (w.heap.size ≤ s_) ∧ (gb676 ≠ s_) ∧ (s_ ≠ gb676) ∧ (gb677 ≠ s_) ∧ (s_ ≠ gb677) ∧ (gb678 ≠ s_) ∧ (s_ ≠ gb678) ∧ (Below w.heap.size w w')) ?_ ?_
    rotate_left
    ·intro hCont
     refine two_ (i := 4) (j := 6) (Ni := some 22) (Nj := some 5) #[y_,y_,y_,y_,y_,n_,n_,n_] #[y_,y_,y_,y_,n_,n_,y_,n_] rfl rfl rfl rfl (two_of HT_.out (by kernel_rfl)) (by decide) (by decide) (fun K hK => ?_) (fun K hK => ?_)
     ·skip
      refine goes_ Try.func93 (by kernel_rfl) rfl #[.int .u64 a0_1] (by rfl) rfl rfl (by (try simp only [List.map_toArray, List.map_cons, List.map_nil]); first | done | rfl) ?_
      with_reducible refine (lockgateref04_full.calls kj2 a0_1 t683 _ A30.out).mono ?_
      rintro e w' ⟨rfl, ⟨nd, rfl⟩⟩
      refine ⟨_, rfl, ?_⟩
      refine hK.out _ _ ⟨c0_ BK676, c1_ BK676⟩ (fun hHeld => ?_)
      clear hK K
      refine norm_ (a' := ?_) ?_ ?_
      rotate_left
      ·show Act.put _ (some 22) _ = _
       simp only [Act.put, s1_, s2_, s3_, i64_w, i32_w]
       rfl
      refine pq_ 5 23 #[y_,y_,y_,y_,y_,y_,n_,n_] ?_
      refine one_ (i := 6) (N := some 5) #[y_,y_,y_,y_,y_,y_,y_,n_] rfl rfl (one_of HT_.out (by kernel_rfl)) (by decide) (fun K hK => ?_)
      refine box_step ?hg (N := 5) ?hd (cs := #[.int .u64 0, .int .u64 0]) (t := 26) ?hr ?_; (case hd => rfl); (case hg => rfl); (case hr => first | (go_simp; done) | (go_simp; rfl))
      intro gb684 hg w33 hbox hb
      have BK684 := Aside0.mk (hbox)
      have GW684 := bg_ hg
      have GE684 := GW684
      have NB676_684 := bm_ hg BK676
      have NB684_676 := bn_ hg BK676
      have NB677_684 := bm_ hg BK677
      have NB684_677 := bn_ hg BK677
      have NB678_684 := bm_ hg BK678
      have NB684_678 := bn_ hg BK678
      replace BK676 := bb_ hb BK676
      replace BK677 := bb_ hb BK677
      replace BK678 := bb_ hb BK678
      replace HB := bl_ hb
      clear hb hbox hg
      refine hK.out _ _ ⟨c0_ BK676, c1_ BK676⟩ (fun hHeld => ?_)
      clear hK K
      refine norm_ (a' := ?_) ?_ ?_
      rotate_left
      ·show Act.put _ (some 5) _ = _
       simp only [Act.put, s1_, s2_, s3_, i64_w, i32_w]
       rfl
      exact norm_ (by simp only [putAll, Act.put, List.setIfInBounds_toArray, List.set_cons_zero, List.set_cons_succ]) (hCont (gb684) _ ⟨hHeld, (by exact bk_), (by exact bk_), (by exact bk_), (by exact bk_), GW684.out, GE684.out, NB676_684.out, NB684_676.out, NB677_684.out, NB684_677.out, NB678_684.out, NB684_678.out, (by repeat (first | (with_reducible first | exact HB.out | apply lA_ | apply lN_ | apply lD_ | refine lS_ ?_ GE676.out | refine lS_ ?_ GE677.out | refine lS_ ?_ GE678.out | refine lS_ ?_ GE684.out) | exact HB.out))⟩)
     ·skip
      refine box_step ?hg (N := 5) ?hd (cs := #[.int .u64 0, .int .u64 0]) (t := 26) ?hr ?_; (case hd => rfl); (case hg => rfl); (case hr => first | (go_simp; done) | (go_simp; rfl))
      intro gb684 hg w33 hbox hb
      have BK684 := Aside0.mk (hbox)
      have GW684 := bg_ hg
      have GE684 := GW684
      have NB676_684 := bm_ hg BK676
      have NB684_676 := bn_ hg BK676
      have NB677_684 := bm_ hg BK677
      have NB684_677 := bn_ hg BK677
      have NB678_684 := bm_ hg BK678
      have NB684_678 := bn_ hg BK678
      replace BK676 := bb_ hb BK676
      replace BK677 := bb_ hb BK677
      replace BK678 := bb_ hb BK678
      replace HB := bl_ hb
      clear hb hbox hg
      refine hK.out _ _ ⟨c0_ BK676, c1_ BK676⟩ (fun hHeld => ?_)
      clear hK K
      refine norm_ (a' := ?_) ?_ ?_
      rotate_left
      ·show Act.put _ (some 5) _ = _
       simp only [Act.put, s1_, s2_, s3_, i64_w, i32_w]
       rfl
      refine one_ (i := 4) (N := some 22) #[y_,y_,y_,y_,y_,n_,y_,n_] rfl rfl (one_of HT_.out (by kernel_rfl)) (by decide) (fun K hK => ?_)
      refine goes_ Try.func93 (by kernel_rfl) rfl #[.int .u64 a0_1] (by rfl) rfl rfl (by (try simp only [List.map_toArray, List.map_cons, List.map_nil]); first | done | rfl) ?_
      with_reducible refine (lockgateref04_full.calls kj2 a0_1 t683 _ A30.out).mono ?_
      rintro e w' ⟨rfl, ⟨nd, rfl⟩⟩
      refine ⟨_, rfl, ?_⟩
      refine hK.out _ _ ⟨c0_ BK676, c1_ BK676⟩ (fun hHeld => ?_)
      clear hK K
      refine norm_ (a' := ?_) ?_ ?_
      rotate_left
      ·show Act.put _ (some 22) _ = _
       simp only [Act.put, s1_, s2_, s3_, i64_w, i32_w]
       rfl
      refine pq_ 5 23 #[y_,y_,y_,y_,y_,y_,y_,n_] ?_
      exact norm_ (by simp only [putAll, Act.put, List.setIfInBounds_toArray, List.set_cons_zero, List.set_cons_succ]) (hCont (gb684) _ ⟨hHeld, (by exact bk_), (by exact bk_), (by exact bk_), (by exact bk_), GW684.out, GE684.out, NB676_684.out, NB684_676.out, NB677_684.out, NB684_677.out, NB678_684.out, NB684_678.out, (by repeat (first | (with_reducible first | exact HB.out | apply lA_ | apply lN_ | apply lD_ | refine lS_ ?_ GE676.out | refine lS_ ?_ GE677.out | refine lS_ ?_ GE678.out | refine lS_ ?_ GE684.out) | exact HB.out))⟩)
    rintro gb684 w34 ⟨hS_, h0_, h1_, h2_, h3_, h4_, h5_, h6_, h7_, h8_, h9_, h10_, h11_, h12_⟩
    have n0_ : Aside0 (w34.heap[gb676]? = some (.cells #[.int .u64 a0_0, .int .u64 a0_1] 26 (0, 0))) := ⟨h0_⟩
    have n1_ : Aside0 (w34.heap[gb677]? = some (.cells #[.int .u64 a1_0, .int .u64 a1_1] 26 (0, 0))) := ⟨h1_⟩
    have n2_ : Aside0 (w34.heap[gb678]? = some (.cells #[.int .u64 0, .int .u64 0] 26 (0, 0))) := ⟨h2_⟩
    have n3_ : Aside0 (w34.heap[gb684]? = some (.cells #[.int .u64 0, .int .u64 0] 26 (0, 0))) := ⟨h3_⟩
    have n4_ : Aside0 (w.heap.size ≤ gb684) := ⟨h4_⟩
    have n5_ : Aside0 (w.heap.size ≤ gb684) := ⟨h5_⟩
    have n6_ : Aside0 (gb676 ≠ gb684) := ⟨h6_⟩
    have n7_ : Aside0 (gb684 ≠ gb676) := ⟨h7_⟩
    have n8_ : Aside0 (gb677 ≠ gb684) := ⟨h8_⟩
    have n9_ : Aside0 (gb684 ≠ gb677) := ⟨h9_⟩
    have n10_ : Aside0 (gb678 ≠ gb684) := ⟨h10_⟩
    have n11_ : Aside0 (gb684 ≠ gb678) := ⟨h11_⟩
    have n12_ : Aside0 (Below w.heap.size w w34) := ⟨h12_⟩
    clear BK676
    clear BK677
    clear BK678
    clear HB
    clear h0_ h1_ h2_ h3_ h4_ h5_ h6_ h7_ h8_ h9_ h10_ h11_ h12_
    have BK676 := n0_
    have BK677 := n1_
    have BK678 := n2_
    have BK684 := n3_
    have GW684 := n4_
    have GE684 := n5_
    have NB676_684 := n6_
    have NB684_676 := n7_
    have NB677_684 := n8_
    have NB684_677 := n9_
    have NB678_684 := n10_
    have NB684_678 := n11_
    have HB := n12_
    clear n0_ n1_ n2_ n3_ n4_ n5_ n6_ n7_ n8_ n9_ n10_ n11_ n12_
    have hHeld : w34.cell? ⟨gb676, 0, none⟩ = some (.int .u64 a0_0) ∧ w34.cell? ⟨gb676, 1, none⟩ = some (.int .u64 a0_1) := hS_
    refine norm_ (a' := ?_) ?_ ?_
    rotate_left
    ·simp only [putAll, Act.put, List.setIfInBounds_toArray, List.set_cons_zero, List.set_cons_succ]
     rfl
    refine one_ (i := 7) (N := none) #[y_,y_,y_,y_,y_,y_,y_,y_] rfl rfl (one_of HT_.out (by kernel_rfl)) (by decide) (fun K hK => ?_)
    have hs35 := c0_ BK684
    have hfs35 := fz_ BK684 0
    have hns35_0 := NB676_684.out
    have hns35_1 := NB677_684.out
    have hns35_2 := NB678_684.out
    have hms35_0 := NB684_676.out
    have hms35_1 := NB684_677.out
    have hms35_2 := NB684_678.out
    have hs36 := c1_ BK684
    have hfs36 := fz_ BK684 1
    have hns36_0 := NB676_684.out
    have hns36_1 := NB677_684.out
    have hns36_2 := NB678_684.out
    have hms36_0 := NB684_676.out
    have hms36_1 := NB684_677.out
    have hms36_2 := NB684_678.out
    refine skip_ (w1 := ?_) (by rfl) rfl ?_ ?_
    rotate_left
    ·go_simp
     rfl
    refine hK.out _ _ ⟨((cell_far (p := ⟨gb684, _, none⟩) NB676_684.out _).trans (((cell_far (p := ⟨gb684, _, none⟩) NB676_684.out _).trans (hHeld.1)))), ((cell_far (p := ⟨gb684, _, none⟩) NB676_684.out _).trans (((cell_far (p := ⟨gb684, _, none⟩) NB676_684.out _).trans (hHeld.2))))⟩ (fun hHeld => ?_)
    clear hK K
    refine done_ (done_of HT_.out (by kernel_rfl)) ?_
    have hnb37 := NB677_676.out
    have hnc37 := NB676_677.out
    have hnb38 := NB677_678.out
    have hnc38 := NB678_677.out
    have hnb39 := NB677_684.out
    have hnc39 := NB684_677.out
    have hcz40_0 := c0_ BK677
    have hcz40_1 := c1_ BK677
    have hfz40_0 := fz_ BK677 0
    have hfz40_1 := fz_ BK677 1
    have hnb41 := NB684_676.out
    have hnc41 := NB676_684.out
    have hnb42 := NB684_678.out
    have hnc42 := NB678_684.out
    have hcz43_0 := c0_ BK684
    have hcz43_1 := c1_ BK684
    have hfz43_0 := fz_ BK684 0
    have hfz43_1 := fz_ BK684 1
    go_upto_if 28 with (fail)
    go_cut [] (fun wc => ∃ (kq : Nat) (x685000_30 : Int), Aside0 (lockgateref04_UOr.j1 kq a1_0 a1_1 x685000_30 t683 = some (r1, r2)) ∧ Aside0 (kq ≤ kj2) ∧ Aside0 (wc.heap[gb676]? = some (.cells #[.int .u64 a0_0, .int .u64 a0_1] 26 (0, 0))) ∧ Aside0 (wc.heap[gb677]? = some (.cells #[.int .u64 a1_0, .int .u64 a1_1] 26 (0, 0))) ∧ Aside0 (wc.heap[gb678]? = some (.cells #[.int .u64 0, .int .u64 0] 26 (0, 0))) ∧ Aside0 (wc.heap[gb684]? = some (.cells #[.int .u64 x685000_30, .int .u64 t683] 26 (0, 0))) ∧ Aside0 (Below w.heap.size w wc))
    case first =>
     have H := HC31.out
     clear HC31
     by_cases c44 : a1_0 > a0_0
     ·rw [if_pos c44] at H
      have c44b0 : decide (a0_0 < a1_0) = true := decide_eq_true c44
      clear c44
      (first | rw [c44b0] | (simp only [i64_w, i32_w]; rw [c44b0]) | skip)
      have H' := Aside0.mk H
      clear H
      have hnb45 := NB677_676.out
      have hnc45 := NB676_677.out
      have hnb46 := NB677_678.out
      have hnc46 := NB678_677.out
      have hnb47 := NB677_684.out
      have hnc47 := NB684_677.out
      have hcz48_0 := c0_ BK677
      have hcz48_1 := c1_ BK677
      have hfz48_0 := fz_ BK677 0
      have hfz48_1 := fz_ BK677 1
      have hnb49 := NB684_676.out
      have hnc49 := NB676_684.out
      have hnb50 := NB684_678.out
      have hnc50 := NB678_684.out
      have hcz51_0 := c0_ BK684
      have hcz51_1 := c1_ BK684
      have hfz51_0 := fz_ BK684 0
      have hfz51_1 := fz_ BK684 1
      go_wp2
      go_meet
      case rel => exact ⟨_, (a1_0), H', ⟨by have := HJ2.out; first | omega | exact Nat.le_refl _⟩, ⟨by (with_reducible repeat (first | apply bN_ | apply bD_ | apply bA_)); refine blk_far ?_ NB676_684.out _; (with_reducible repeat (first | apply bN_ | apply bD_ | apply bA_)); refine blk_far ?_ NB676_684.out _; (with_reducible repeat (first | apply bN_ | apply bD_ | apply bA_)); refine blk_far ?_ NB676_684.out _; exact bk_⟩, ⟨by (with_reducible repeat (first | apply bN_ | apply bD_ | apply bA_)); refine blk_far ?_ NB677_684.out _; (with_reducible repeat (first | apply bN_ | apply bD_ | apply bA_)); refine blk_far ?_ NB677_684.out _; (with_reducible repeat (first | apply bN_ | apply bD_ | apply bA_)); refine blk_far ?_ NB677_684.out _; exact bk_⟩, ⟨by (with_reducible repeat (first | apply bN_ | apply bD_ | apply bA_)); refine blk_far ?_ NB678_684.out _; (with_reducible repeat (first | apply bN_ | apply bD_ | apply bA_)); refine blk_far ?_ NB678_684.out _; (with_reducible repeat (first | apply bN_ | apply bD_ | apply bA_)); refine blk_far ?_ NB678_684.out _; exact bk_⟩, ⟨by (with_reducible repeat (first | apply bN_ | apply bD_ | apply bA_)); refine blk_put (cs := #[.int .u64 a0_0, .int .u64 t683]) ?_ 0 _ rfl; (with_reducible repeat (first | apply bN_ | apply bD_ | apply bA_)); refine blk_put (cs := #[.int .u64 a0_0, .int .u64 0]) ?_ 1 _ rfl; (with_reducible repeat (first | apply bN_ | apply bD_ | apply bA_)); refine blk_put (cs := #[.int .u64 0, .int .u64 0]) ?_ 0 _ rfl; exact bk_⟩, ⟨by repeat (first | (with_reducible first | exact HB.out | apply lA_ | apply lN_ | apply lD_ | refine lS_ ?_ GE676.out | refine lS_ ?_ GE677.out | refine lS_ ?_ GE678.out | refine lS_ ?_ GE684.out) | exact HB.out)⟩⟩
     ·rw [if_neg c44] at H
      have c44b0 : decide (a0_0 < a1_0) = false := decide_eq_false c44
      clear c44
      (first | rw [c44b0] | (simp only [i64_w, i32_w]; rw [c44b0]) | skip)
      have H' := Aside0.mk H
      clear H
      go_wp2
      go_meet
      case rel => exact ⟨_, (a0_0), H', ⟨by have := HJ2.out; first | omega | exact Nat.le_refl _⟩, ⟨by (with_reducible repeat (first | apply bN_ | apply bD_ | apply bA_)); refine blk_far ?_ NB676_684.out _; (with_reducible repeat (first | apply bN_ | apply bD_ | apply bA_)); refine blk_far ?_ NB676_684.out _; exact bk_⟩, ⟨by (with_reducible repeat (first | apply bN_ | apply bD_ | apply bA_)); refine blk_far ?_ NB677_684.out _; (with_reducible repeat (first | apply bN_ | apply bD_ | apply bA_)); refine blk_far ?_ NB677_684.out _; exact bk_⟩, ⟨by (with_reducible repeat (first | apply bN_ | apply bD_ | apply bA_)); refine blk_far ?_ NB678_684.out _; (with_reducible repeat (first | apply bN_ | apply bD_ | apply bA_)); refine blk_far ?_ NB678_684.out _; exact bk_⟩, ⟨by (with_reducible repeat (first | apply bN_ | apply bD_ | apply bA_)); refine blk_put (cs := #[.int .u64 a0_0, .int .u64 0]) ?_ 1 _ rfl; (with_reducible repeat (first | apply bN_ | apply bD_ | apply bA_)); refine blk_put (cs := #[.int .u64 0, .int .u64 0]) ?_ 0 _ rfl; exact bk_⟩, ⟨by repeat (first | (with_reducible first | exact HB.out | apply lA_ | apply lN_ | apply lD_ | refine lS_ ?_ GE676.out | refine lS_ ?_ GE677.out | refine lS_ ?_ GE678.out | refine lS_ ?_ GE684.out) | exact HB.out)⟩⟩
    case rest =>
     clear HC31
     try clear c1
     try clear c2
     try clear p2
     try clear c3
     try clear c4
     try clear c5
     try clear c6
     try clear c7
     try clear c8
     try clear c9
     try clear c10
     try clear c11
     try clear c14
     try clear c17
     try clear c18
     try clear c21
     try clear c23
     try clear c24
     try clear c26
     try clear c37
     try clear c38
     try clear c39
     try clear c41
     try clear c42
     try clear c44
     try clear c44b0
     try clear c45
     try clear c46
     try clear c47
     try clear c49
     try clear c50
     try clear hcz12_0
     try clear hcz12_1
     try clear hcz15_0
     try clear hcz15_1
     try clear hcz19_0
     try clear hcz19_1
     try clear hcz25_0
     try clear hcz25_1
     try clear hcz27_0
     try clear hcz27_1
     try clear hcz29_0
     try clear hcz29_1
     try clear hcz40_0
     try clear hcz40_1
     try clear hcz43_0
     try clear hcz43_1
     try clear hcz48_0
     try clear hcz48_1
     try clear hcz51_0
     try clear hcz51_1
     try clear hfz12_0
     try clear hfz12_1
     try clear hfz15_0
     try clear hfz15_1
     try clear hfz19_0
     try clear hfz19_1
     try clear hfz25_0
     try clear hfz25_1
     try clear hfz27_0
     try clear hfz27_1
     try clear hfz29_0
     try clear hfz29_1
     try clear hfz40_0
     try clear hfz40_1
     try clear hfz43_0
     try clear hfz43_1
     try clear hfz48_0
     try clear hfz48_1
     try clear hfz51_0
     try clear hfz51_1
     try clear p2
     obtain ⟨kq, x685000_30, HA, HJ30, BK676, BK677, BK678, BK684, HB⟩ := hcut
     cases kq with
     | zero => exact absurd HA.out (by simp [lockgateref04_UOr.j1])
     | succ kj30 =>
      have H := HA.out
      clear HA
      simp only [lockgateref04_UOr.j1] at H
      replace H := Option.bind_eq_some_iff.mp H
      obtain ⟨t685, A520, H⟩ := H
      replace H : (if t685 > t683 then ((lockgateref04_full.f kj30 a1_1).bind fun t686 => (some (x685000_30, t686))) else (some (x685000_30, t683))) = some (r1, r2) := H
      have A52 := Aside0.mk A520
      clear A520
      by_cases c53 : t685 > t683
      ·rw [if_pos c53] at H
       have c53b0 : decide (t683 < t685) = true := decide_eq_true c53
       clear c53
       replace H := Option.bind_eq_some_iff.mp H
       obtain ⟨t686, A540, H⟩ := H
       replace H : (some (x685000_30, t686)) = some (r1, r2) := H
       have A54 := Aside0.mk A540
       clear A540
       simp only [Option.some.injEq, Prod.mk.injEq] at H
       obtain ⟨rfl, rfl⟩ := H
       try go_wp2
       replace BK676 := Aside0.mk (blk_drew BK676.out)
       replace BK677 := Aside0.mk (blk_drew BK677.out)
       replace BK678 := Aside0.mk (blk_drew BK678.out)
       replace BK684 := Aside0.mk (blk_drew BK684.out)
       replace HB := Aside0.mk (below_drew1 HB.out)
       refine start_ (n := 6) (S := fun w' => w'.cell? ⟨gb677, 0, none⟩ = some (.int .u64 a1_0) ∧ w'.cell? ⟨gb677, 1, none⟩ = some (.int .u64 a1_1) ∧ w'.cell? ⟨gb684, 0, none⟩ = some (.int .u64 x685000_30) ∧ w'.cell? ⟨gb684, 1, none⟩ = some (.int .u64 t683)) (ds := []) #[n_,n_,n_,n_,n_,n_] (by kernel_rfl) rfl rfl ⟨c0_ BK677, c1_ BK677, c0_ BK684, c1_ BK684⟩ (fun hHeld => ?_)
       generalize wc.drew = w55 at BK676 BK677 BK678 BK684 HB hHeld ⊢
       refine pure_ (i := 0) (N := some 32) (v := ?_) (a' := ?_) #[y_,n_,n_,n_,n_,n_] rfl rfl (by kernel_rfl) (fun _ _ _ h => h) (Or.inl ⟨by rfl, ?_⟩) ?_ ?_
       rotate_left
       ·intro w'
        go_simp
        with_reducible rfl
       rotate_left
       ·simp only [Act.put, s1_, s2_, s3_, i64_w, i32_w]
        rfl
       refine pure_ (i := 3) (N := some 35) (v := ?_) (a' := ?_) #[y_,n_,n_,y_,n_,n_] rfl rfl (by kernel_rfl) (fun _ _ _ h => h) (Or.inl ⟨by rfl, ?_⟩) ?_ ?_
       rotate_left
       ·intro w'
        go_simp
        with_reducible rfl
       rotate_left
       ·simp only [Act.put, s1_, s2_, s3_, i64_w, i32_w]
        rfl
       refine take_ (i := 1) (N := some 33) (v := ?_) (a' := ?_) #[y_,y_,n_,y_,n_,n_] rfl rfl (by kernel_rfl) (fun _ _ _ h => h) (Or.inl ⟨by rfl, ?_⟩) hHeld ?_ ?_
       rotate_left
       ·rintro w' ⟨s0, s1, s2, s3⟩
        go_simp
        with_reducible rfl
       rotate_left
       ·simp only [Act.put, s1_, s2_, s3_, i64_w, i32_w]
        rfl
       refine take_ (i := 4) (N := some 36) (v := ?_) (a' := ?_) #[y_,y_,n_,y_,y_,n_] rfl rfl (by kernel_rfl) (fun _ _ _ h => h) (Or.inl ⟨by rfl, ?_⟩) hHeld ?_ ?_
       rotate_left
       ·rintro w' ⟨s0, s1, s2, s3⟩
        go_simp
        with_reducible rfl
       rotate_left
       ·simp only [Act.put, s1_, s2_, s3_, i64_w, i32_w]
        rfl
       refine one_ (i := 2) (N := some 34) #[y_,y_,y_,y_,y_,n_] rfl rfl (by kernel_rfl) (by decide) (fun K hK => ?_)
       refine goes_ Try.func93 (by kernel_rfl) rfl #[.int .u64 a1_1] (by rfl) rfl rfl (by (try simp only [List.map_toArray, List.map_cons, List.map_nil]); first | done | rfl) ?_
       with_reducible refine (lockgateref04_full.calls kj30 a1_1 t685 _ A52.out).mono ?_
       rintro e w' ⟨rfl, ⟨nd, rfl⟩⟩
       refine ⟨_, rfl, ?_⟩
       refine hK.out _ _ ⟨c0_ BK677, c1_ BK677, c0_ BK684, c1_ BK684⟩ (fun hHeld => ?_)
       clear hK K
       refine norm_ (a' := ?_) ?_ ?_
       rotate_left
       ·show Act.put _ (some 34) _ = _
        simp only [Act.put, s1_, s2_, s3_, i64_w, i32_w]
        rfl
       refine pure_ (i := 5) (N := some 37) (v := ?_) (a' := ?_) #[y_,y_,y_,y_,y_,y_] rfl rfl (by kernel_rfl) (fun _ _ _ h => h) (Or.inl ⟨by rfl, ?_⟩) ?_ ?_
       rotate_left
       ·intro w'
        go_simp
        with_reducible rfl
       rotate_left
       ·simp only [Act.put, s1_, s2_, s3_, i64_w, i32_w]
        rfl
       refine done_ (by kernel_rfl) ?_
       have hnb56 := NB677_676.out
       have hnc56 := NB676_677.out
       have hnb57 := NB677_678.out
       have hnc57 := NB678_677.out
       have hnb58 := NB677_684.out
       have hnc58 := NB684_677.out
       have hcz59_0 := c0_ BK677
       have hcz59_1 := c1_ BK677
       have hfz59_0 := fz_ BK677 0
       have hfz59_1 := fz_ BK677 1
       try go_wp2_with (first | ((with_reducible refine gate_callee (f := 93) rfl ?_); refine goesL_ (some 40) rfl rfl Try.func93 (by kernel_rfl) rfl #[.int .u64 a1_1] rfl (by (try simp only [List.map_toArray, List.map_cons, List.map_nil]); first | done | rfl) ?_; (with_reducible refine (lockgateref04_full.calls kj30 a1_1 t686 _ A54.out).mono ?_); rintro e w' ⟨rfl, ⟨nd, rfl⟩⟩; refine ⟨_, rfl, ?_⟩; (try (rw [drewN_self w55]; generalize hq_ : World.drewN w55 _ = w55; have n0_ : Aside0 (w55.heap[gb676]? = some (.cells #[.int .u64 a0_0, .int .u64 a0_1] 26 (0, 0))) := ⟨by rw [← hq_]; exact (by exact bk_)⟩; have n1_ : Aside0 (w55.heap[gb677]? = some (.cells #[.int .u64 a1_0, .int .u64 a1_1] 26 (0, 0))) := ⟨by rw [← hq_]; exact (by exact bk_)⟩; have n2_ : Aside0 (w55.heap[gb678]? = some (.cells #[.int .u64 0, .int .u64 0] 26 (0, 0))) := ⟨by rw [← hq_]; exact (by exact bk_)⟩; have n3_ : Aside0 (w55.heap[gb684]? = some (.cells #[.int .u64 x685000_30, .int .u64 t683] 26 (0, 0))) := ⟨by rw [← hq_]; exact (by exact bk_)⟩; have n4_ : Aside0 (Below w.heap.size w w55) := ⟨by rw [← hq_]; exact (by repeat (first | (with_reducible first | exact HB.out | apply lA_ | apply lN_ | apply lD_ | refine lS_ ?_ GE676.out | refine lS_ ?_ GE677.out | refine lS_ ?_ GE678.out | refine lS_ ?_ GE684.out) | exact HB.out))⟩; clear BK676 BK677 BK678 BK684 HB hq_; have BK676 := n0_; have BK677 := n1_; have BK678 := n2_; have BK684 := n3_; have HB := n4_; clear n0_ n1_ n2_ n3_ n4_)); have hcygb676_0 := c0_ BK676; have hfygb676_0 := fz_ BK676 0; have hcygb676_1 := c1_ BK676; have hfygb676_1 := fz_ BK676 1; have hcygb677_0 := c0_ BK677; have hfygb677_0 := fz_ BK677 0; have hcygb677_1 := c1_ BK677; have hfygb677_1 := fz_ BK677 1; have hnb60 := NB684_676.out; have hnc60 := NB676_684.out; have hnb61 := NB684_678.out; have hnc61 := NB678_684.out; have hcz62_0 := c0_ BK684; have hcz62_1 := c1_ BK684; have hfz62_0 := fz_ BK684 0; have hfz62_1 := fz_ BK684 1; have hnb63 := NB678_676.out; have hnc63 := NB676_678.out; have hcz64_0 := c0_ BK678; have hcz64_1 := c1_ BK678; have hfz64_0 := fz_ BK678 0; have hfz64_1 := fz_ BK678 1))
       refine bodyPost_ret (results_cell_row rfl _ _ gb678 26 #[.int .u64 x685000_30, .int .u64 t686] (0, 0) _ rfl (by (with_reducible repeat (first | apply bN_ | apply bD_ | apply bA_)); refine blk_put (cs := #[.int .u64 x685000_30, .int .u64 0]) ?_ 1 _ rfl; (with_reducible repeat (first | apply bN_ | apply bD_ | apply bA_)); refine blk_put (cs := #[.int .u64 0, .int .u64 0]) ?_ 0 _ rfl; (with_reducible repeat (first | apply bN_ | apply bD_ | apply bA_)); refine blk_far ?_ NB678_684.out _; exact bk_) Try.underlying26 rfl (by kernel_rfl)) rfl ?_
       exact ⟨vv_, bz_⟩
      ·rw [if_neg c53] at H
       have c53b0 : decide (t683 < t685) = false := decide_eq_false c53
       clear c53
       simp only [Option.some.injEq, Prod.mk.injEq] at H
       obtain ⟨rfl, rfl⟩ := H
       try go_wp2
       replace BK676 := Aside0.mk (blk_drew BK676.out)
       replace BK677 := Aside0.mk (blk_drew BK677.out)
       replace BK678 := Aside0.mk (blk_drew BK678.out)
       replace BK684 := Aside0.mk (blk_drew BK684.out)
       replace HB := Aside0.mk (below_drew1 HB.out)
       refine start_ (n := 6) (S := fun w' => w'.cell? ⟨gb677, 0, none⟩ = some (.int .u64 a1_0) ∧ w'.cell? ⟨gb677, 1, none⟩ = some (.int .u64 a1_1) ∧ w'.cell? ⟨gb684, 0, none⟩ = some (.int .u64 x685000_30) ∧ w'.cell? ⟨gb684, 1, none⟩ = some (.int .u64 t683)) (ds := []) #[n_,n_,n_,n_,n_,n_] (by kernel_rfl) rfl rfl ⟨c0_ BK677, c1_ BK677, c0_ BK684, c1_ BK684⟩ (fun hHeld => ?_)
       generalize wc.drew = w65 at BK676 BK677 BK678 BK684 HB hHeld ⊢
       refine pure_ (i := 0) (N := some 32) (v := ?_) (a' := ?_) #[y_,n_,n_,n_,n_,n_] rfl rfl (by kernel_rfl) (fun _ _ _ h => h) (Or.inl ⟨by rfl, ?_⟩) ?_ ?_
       rotate_left
       ·intro w'
        go_simp
        with_reducible rfl
       rotate_left
       ·simp only [Act.put, s1_, s2_, s3_, i64_w, i32_w]
        rfl
       refine pure_ (i := 3) (N := some 35) (v := ?_) (a' := ?_) #[y_,n_,n_,y_,n_,n_] rfl rfl (by kernel_rfl) (fun _ _ _ h => h) (Or.inl ⟨by rfl, ?_⟩) ?_ ?_
       rotate_left
       ·intro w'
        go_simp
        with_reducible rfl
       rotate_left
       ·simp only [Act.put, s1_, s2_, s3_, i64_w, i32_w]
        rfl
       refine take_ (i := 1) (N := some 33) (v := ?_) (a' := ?_) #[y_,y_,n_,y_,n_,n_] rfl rfl (by kernel_rfl) (fun _ _ _ h => h) (Or.inl ⟨by rfl, ?_⟩) hHeld ?_ ?_
       rotate_left
       ·rintro w' ⟨s0, s1, s2, s3⟩
        go_simp
        with_reducible rfl
       rotate_left
       ·simp only [Act.put, s1_, s2_, s3_, i64_w, i32_w]
        rfl
       refine take_ (i := 4) (N := some 36) (v := ?_) (a' := ?_) #[y_,y_,n_,y_,y_,n_] rfl rfl (by kernel_rfl) (fun _ _ _ h => h) (Or.inl ⟨by rfl, ?_⟩) hHeld ?_ ?_
       rotate_left
       ·rintro w' ⟨s0, s1, s2, s3⟩
        go_simp
        with_reducible rfl
       rotate_left
       ·simp only [Act.put, s1_, s2_, s3_, i64_w, i32_w]
        rfl
       refine one_ (i := 2) (N := some 34) #[y_,y_,y_,y_,y_,n_] rfl rfl (by kernel_rfl) (by decide) (fun K hK => ?_)
       refine goes_ Try.func93 (by kernel_rfl) rfl #[.int .u64 a1_1] (by rfl) rfl rfl (by (try simp only [List.map_toArray, List.map_cons, List.map_nil]); first | done | rfl) ?_
       with_reducible refine (lockgateref04_full.calls kj30 a1_1 t685 _ A52.out).mono ?_
       rintro e w' ⟨rfl, ⟨nd, rfl⟩⟩
       refine ⟨_, rfl, ?_⟩
       refine hK.out _ _ ⟨c0_ BK677, c1_ BK677, c0_ BK684, c1_ BK684⟩ (fun hHeld => ?_)
       clear hK K
       refine norm_ (a' := ?_) ?_ ?_
       rotate_left
       ·show Act.put _ (some 34) _ = _
        simp only [Act.put, s1_, s2_, s3_, i64_w, i32_w]
        rfl
       refine pure_ (i := 5) (N := some 37) (v := ?_) (a' := ?_) #[y_,y_,y_,y_,y_,y_] rfl rfl (by kernel_rfl) (fun _ _ _ h => h) (Or.inl ⟨by rfl, ?_⟩) ?_ ?_
       rotate_left
       ·intro w'
        go_simp
        with_reducible rfl
       rotate_left
       ·simp only [Act.put, s1_, s2_, s3_, i64_w, i32_w]
        rfl
       refine done_ (by kernel_rfl) ?_
       have hnb66 := NB684_676.out
       have hnc66 := NB676_684.out
       have hnb67 := NB684_677.out
       have hnc67 := NB677_684.out
       have hnb68 := NB684_678.out
       have hnc68 := NB678_684.out
       have hcz69_0 := c0_ BK684
       have hcz69_1 := c1_ BK684
       have hfz69_0 := fz_ BK684 0
       have hfz69_1 := fz_ BK684 1
       have hnb70 := NB678_676.out
       have hnc70 := NB676_678.out
       have hnb71 := NB678_677.out
       have hnc71 := NB677_678.out
       have hcz72_0 := c0_ BK678
       have hcz72_1 := c1_ BK678
       have hfz72_0 := fz_ BK678 0
       have hfz72_1 := fz_ BK678 1
       try go_wp2
       refine bodyPost_ret (results_cell_row rfl _ _ gb678 26 #[.int .u64 x685000_30, .int .u64 t683] (0, 0) _ rfl (by (with_reducible repeat (first | apply bN_ | apply bD_ | apply bA_)); refine blk_put (cs := #[.int .u64 x685000_30, .int .u64 0]) ?_ 1 _ rfl; (with_reducible repeat (first | apply bN_ | apply bD_ | apply bA_)); refine blk_put (cs := #[.int .u64 0, .int .u64 0]) ?_ 0 _ rfl; exact bk_) Try.underlying26 rfl (by kernel_rfl)) rfl ?_
       exact ⟨vv_, bz_⟩

end Go.Proofs.Ytnephcecobocdaa.PA
