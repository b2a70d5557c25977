-- PRINTED by print.py (a twelfth state) out of the translation. Not trusted: Lean checks it.
import Derived.Test.YtnephcecobocdaaWTab
import Derived.Test.YtnephcecobocdaaPA0
import Derived.Test.YtnephcecobocdaaSq
import Derived.Test.YtnephcecobocdaaPA12
import Derived.Test.YtnephcecobocdaaPA14
namespace Go.Proofs.Ytnephcecobocdaa.PA
open Go.RowKit Go.Proofs.YtnephcecobocdaaW.PrintWords Go.Proofs.YtnephcecobocdaaW.PrintLast Go.Proofs.YtnephcecobocdaaW.PrintMore
attribute [local go_sem] max2_int min2_int max_two min_two max_three min_three max_four min_four   -- for this text's walks alone
set_option linter.unusedVariables false
set_option linter.unusedSimpArgs false

/-! ### lockgateref04_UCut: function 69 -/
def lockgateref04_UCut.f (a0_0 : Int) (a0_1 : Int) : Option (Int × Int) := if (IntKind.u64.wrap (Int.tdiv a0_0 4294967296)) = (IntKind.u64.wrap (Int.tdiv a0_1 4294967296)) then (some (Int.tmod a0_0 4294967296, Int.tmod a0_1 4294967296)) else (some (0, 4294967296 - 1))
def lockgateref04_UCut.T2 : Bool × List (List Nat × List Nat) := (true, [([], []), ([0], [0]), ([], []), ([1, 2], [1, 2]), ([], []), ([4], [4]), ([], []), ([5, 6], [5, 6]), ([3, 7], [3, 7])])
def lockgateref04_UCut.B2 : List Nat := [0, 1, 0, 7, 0, 16, 0, 112, 255]
theorem lockgateref04_UCut.tab2 : rtab .any (opsOf Try.f69 2) = lockgateref04_UCut.T2 := by kernel_rfl
theorem lockgateref04_UCut.bits2 : waitsOk lockgateref04_UCut.T2.2 lockgateref04_UCut.B2 = true := by kernel_rfl
def lockgateref04_UCut.T3 : Bool × List (List Nat × List Nat) := (true, [([], []), ([0], [0]), ([], []), ([1, 2], [1, 2]), ([], []), ([4], [4]), ([], []), ([5, 6], [5, 6]), ([3, 7], [3, 7]), ([8, 0, 1, 2, 3, 4, 5, 6, 7, 8], [8])])
def lockgateref04_UCut.B3 : List Nat := [0, 1, 0, 7, 0, 16, 0, 112, 255, 511]
theorem lockgateref04_UCut.tab3 : rtab .any (opsOf Try.f69 3) = lockgateref04_UCut.T3 := by kernel_rfl
theorem lockgateref04_UCut.bits3 : waitsOk lockgateref04_UCut.T3.2 lockgateref04_UCut.B3 = true := by kernel_rfl
set_option maxHeartbeats 8000000 in
set_option maxRecDepth 100000 in
theorem lockgateref04_UCut.calls (a0_0 : Int) (a0_1 : Int) (r1 : Int) (r2 : Int) (w : World) (h : lockgateref04_UCut.f a0_0 a0_1 = some (r1, r2)) :
 Calls Try.prog 69 #[.agg #[.int .u64 a0_0, .int .u64 a0_1]] w fun e w' => e = .returned (.agg #[.int .u64 r1, .int .u64 r2]) ∧ Below w.heap.size w w' := by
 have hu26 := Try.underlying26
 have HB := Aside0.mk (Below.refl w.heap.size w)
 have H : (if (IntKind.u64.wrap (Int.tdiv a0_0 4294967296)) = (IntKind.u64.wrap (Int.tdiv a0_1 4294967296)) then (some (Int.tmod a0_0 4294967296, Int.tmod a0_1 4294967296)) else (some (0, 4294967296 - 1))) = some (r1, r2) := h
 clear h
 by_cases c2 : (IntKind.u64.wrap (Int.tdiv a0_0 4294967296)) = (IntKind.u64.wrap (Int.tdiv a0_1 4294967296))
 ·rw [if_pos c2] at H
  have c2b0 : ((IntKind.u64.wrap (Int.tdiv a0_0 4294967296)) == (IntKind.u64.wrap (Int.tdiv a0_1 4294967296))) = true := beq_iff_eq.mpr c2
  have c2b1 : ((IntKind.u64.wrap (Int.tdiv a0_0 4294967296)) != (IntKind.u64.wrap (Int.tdiv a0_1 4294967296))) = false := bne_eq_false_iff_eq.mpr c2
  clear c2
  simp only [Option.some.injEq, Prod.mk.injEq] at H
  obtain ⟨rfl, rfl⟩ := H
  go_enter Try.func69, Try.ntmps69
  try go_wp2_with (first | ((with_reducible refine gate_dst (N := 1) rfl ?_); refine bx_ 1 #[.int .u64 a0_0, .int .u64 a0_1] 26 ?_; intro gb696 hg w3 BK696 hb; have GW696 := bg_ hg; have GE696 := GW696; replace HB := bl_ hb; clear hb hg) | ((with_reducible refine gate_dst (N := 2) rfl ?_); refine bx_ 2 #[.int .u64 0, .int .u64 0] 26 ?_; intro gb697 hg w4 BK697 hb; have GW697 := bg_ hg; have GE697 := GW697; have NB696_697 := bm_ hg BK696; have NB697_696 := bn_ hg BK696; replace BK696 := bb_ hb BK696; replace HB := bl_ hb; clear hb hg))
  replace BK696 := Aside0.mk (blk_drew BK696.out)
  replace BK697 := Aside0.mk (blk_drew BK697.out)
  replace HB := Aside0.mk (below_drew1 HB.out)
  refine start_ (n := 9) (S := fun w' => w'.cell? ⟨gb696, 0, none⟩ = some (.int .u64 a0_0) ∧ w'.cell? ⟨gb696, 1, none⟩ = some (.int .u64 a0_1)) (ds := []) #[n_,n_,n_,n_,n_,n_,n_,n_,n_] (by kernel_rfl) rfl rfl ⟨c0_ BK696, c1_ BK696⟩ (fun hHeld => ?_); refine with_tabW lockgateref04_UCut.tab2 lockgateref04_UCut.bits2 (fun HT_ HW_ => ?_)
  generalize w4.drew = w5 at BK696 BK697 HB hHeld ⊢
  refine pq_ 0 4 #[y_,n_,n_,n_,n_,n_,n_,n_,n_] ?_
  refine pq_ 2 6 #[y_,n_,y_,n_,n_,n_,n_,n_,n_] ?_
  refine pq_ 4 8 #[y_,n_,y_,n_,y_,n_,n_,n_,n_] ?_
  refine pq_ 6 10 #[y_,n_,y_,n_,y_,n_,y_,n_,n_] ?_
  refine tq0_ 1 5 #[y_,y_,y_,n_,y_,n_,y_,n_,n_] hHeld ?_
  refine pq_ 3 7 #[y_,y_,y_,y_,y_,n_,y_,n_,n_] ?_
  refine tq0_ 5 9 #[y_,y_,y_,y_,y_,y_,y_,n_,n_] hHeld ?_
  refine pq_ 7 11 #[y_,y_,y_,y_,y_,y_,y_,y_,n_] ?_
  refine pq_ 8 12 #[y_,y_,y_,y_,y_,y_,y_,y_,y_] ?_
  refine done_ (done_of HT_.out (by kernel_rfl)) ?_
  try go_wp2
  replace BK696 := Aside0.mk (blk_drew BK696.out)
  replace BK697 := Aside0.mk (blk_drew BK697.out)
  replace HB := Aside0.mk (below_drew1 HB.out)
  refine start_ (n := 10) (S := fun w' => w'.cell? ⟨gb696, 0, none⟩ = some (.int .u64 a0_0) ∧ w'.cell? ⟨gb696, 1, none⟩ = some (.int .u64 a0_1)) (ds := []) #[n_,n_,n_,n_,n_,n_,n_,n_,n_,n_] (by kernel_rfl) rfl rfl ⟨c0_ BK696, c1_ BK696⟩ (fun hHeld => ?_); refine with_tabW lockgateref04_UCut.tab3 lockgateref04_UCut.bits3 (fun HT_ HW_ => ?_)
  generalize w5.drew = w6 at BK696 BK697 HB hHeld ⊢
  refine pq_ 0 13 #[y_,n_,n_,n_,n_,n_,n_,n_,n_,n_] ?_
  refine pq_ 2 15 #[y_,n_,y_,n_,n_,n_,n_,n_,n_,n_] ?_
  refine pq_ 4 17 #[y_,n_,y_,n_,y_,n_,n_,n_,n_,n_] ?_
  refine pq_ 6 19 #[y_,n_,y_,n_,y_,n_,y_,n_,n_,n_] ?_
  refine tq0_ 1 14 #[y_,y_,y_,n_,y_,n_,y_,n_,n_,n_] hHeld ?_
  refine pq_ 3 16 #[y_,y_,y_,y_,y_,n_,y_,n_,n_,n_] ?_
  refine tq0_ 5 18 #[y_,y_,y_,y_,y_,y_,y_,n_,n_,n_] hHeld ?_
  refine pq_ 7 20 #[y_,y_,y_,y_,y_,y_,y_,y_,n_,n_] ?_
  refine pq_ 8 21 #[y_,y_,y_,y_,y_,y_,y_,y_,y_,n_] ?_
  refine one_ (i := 9) (N := none) #[y_,y_,y_,y_,y_,y_,y_,y_,y_,y_] rfl rfl (one_of HT_.out (by kernel_rfl)) (by decide) (fun K hK => ?_)
  have hs7 := c0_ BK697
  have hfs7 := fz_ BK697 0
  have hns7_0 := NB696_697.out
  have hms7_0 := NB697_696.out
  have hs8 := c1_ BK697
  have hfs8 := fz_ BK697 1
  have hns8_0 := NB696_697.out
  have hms8_0 := NB697_696.out
  refine skip_ (w1 := ?_) (by rfl) rfl ?_ ?_
  rotate_left
  ·go_simp
   rfl
  refine hK.out _ _ ⟨((cell_far (p := ⟨gb697, _, none⟩) NB696_697.out _).trans (((cell_far (p := ⟨gb697, _, none⟩) NB696_697.out _).trans (hHeld.1)))), ((cell_far (p := ⟨gb697, _, none⟩) NB696_697.out _).trans (((cell_far (p := ⟨gb697, _, none⟩) NB696_697.out _).trans (hHeld.2))))⟩ (fun hHeld => ?_)
  clear hK K
  refine done_ (done_of HT_.out (by kernel_rfl)) ?_
  try go_wp2
  refine bodyPost_ret (results_cell_row rfl _ _ gb697 26 #[.int .u64 (Int.tmod a0_0 4294967296), .int .u64 (Int.tmod a0_1 4294967296)] (0, 0) _ rfl (by (with_reducible repeat (first | apply bN_ | apply bD_ | apply bA_)); refine blk_put (cs := #[.int .u64 (Int.tmod a0_0 4294967296), .int .u64 0]) ?_ 1 _ rfl; (with_reducible repeat (first | apply bN_ | apply bD_ | apply bA_)); refine blk_put (cs := #[.int .u64 0, .int .u64 0]) ?_ 0 _ rfl; exact bk_) Try.underlying26 rfl (by kernel_rfl)) rfl ?_
  exact ⟨vv_, bz_⟩
 ·rw [if_neg c2] at H
  have c2b0 : ((IntKind.u64.wrap (Int.tdiv a0_0 4294967296)) == (IntKind.u64.wrap (Int.tdiv a0_1 4294967296))) = false := beq_eq_false_iff_ne.mpr c2
  have c2b1 : ((IntKind.u64.wrap (Int.tdiv a0_0 4294967296)) != (IntKind.u64.wrap (Int.tdiv a0_1 4294967296))) = true := bne_iff_ne.mpr c2
  simp only [Option.some.injEq, Prod.mk.injEq] at H
  obtain ⟨rfl, rfl⟩ := H
  go_enter Try.func69, Try.ntmps69
  try go_wp2_with (first | ((with_reducible refine gate_dst (N := 1) rfl ?_); refine bx_ 1 #[.int .u64 a0_0, .int .u64 a0_1] 26 ?_; intro gb696 hg w9 BK696 hb; have GW696 := bg_ hg; have GE696 := GW696; replace HB := bl_ hb; clear hb hg) | ((with_reducible refine gate_dst (N := 2) rfl ?_); refine bx_ 2 #[.int .u64 0, .int .u64 0] 26 ?_; intro gb697 hg w10 BK697 hb; have GW697 := bg_ hg; have GE697 := GW697; have NB696_697 := bm_ hg BK696; have NB697_696 := bn_ hg BK696; replace BK696 := bb_ hb BK696; replace HB := bl_ hb; clear hb hg))
  replace BK696 := Aside0.mk (blk_drew BK696.out)
  replace BK697 := Aside0.mk (blk_drew BK697.out)
  replace HB := Aside0.mk (below_drew1 HB.out)
  refine start_ (n := 9) (S := fun w' => w'.cell? ⟨gb696, 0, none⟩ = some (.int .u64 a0_0) ∧ w'.cell? ⟨gb696, 1, none⟩ = some (.int .u64 a0_1)) (ds := []) #[n_,n_,n_,n_,n_,n_,n_,n_,n_] (by kernel_rfl) rfl rfl ⟨c0_ BK696, c1_ BK696⟩ (fun hHeld => ?_); refine with_tabW lockgateref04_UCut.tab2 lockgateref04_UCut.bits2 (fun HT_ HW_ => ?_)
  generalize w10.drew = w11 at BK696 BK697 HB hHeld ⊢
  refine pq_ 0 4 #[y_,n_,n_,n_,n_,n_,n_,n_,n_] ?_
  refine pq_ 2 6 #[y_,n_,y_,n_,n_,n_,n_,n_,n_] ?_
  refine pq_ 4 8 #[y_,n_,y_,n_,y_,n_,n_,n_,n_] ?_
  refine pq_ 6 10 #[y_,n_,y_,n_,y_,n_,y_,n_,n_] ?_
  refine tq0_ 1 5 #[y_,y_,y_,n_,y_,n_,y_,n_,n_] hHeld ?_
  refine pq_ 3 7 #[y_,y_,y_,y_,y_,n_,y_,n_,n_] ?_
  refine tq0_ 5 9 #[y_,y_,y_,y_,y_,y_,y_,n_,n_] hHeld ?_
  refine pq_ 7 11 #[y_,y_,y_,y_,y_,y_,y_,y_,n_] ?_
  refine pq_ 8 12 #[y_,y_,y_,y_,y_,y_,y_,y_,y_] ?_
  refine done_ (done_of HT_.out (by kernel_rfl)) ?_
  have hnb12 := NB697_696.out
  have hnc12 := NB696_697.out
  have hcz13_0 := c0_ BK697
  have hcz13_1 := c1_ BK697
  have hfz13_0 := fz_ BK697 0
  have hfz13_1 := fz_ BK697 1
  try go_wp2
  refine bodyPost_ret (results_cell_row rfl _ _ gb697 26 #[.int .u64 0, .int .u64 (4294967296 - 1)] (0, 0) _ rfl (by (with_reducible repeat (first | apply bN_ | apply bD_ | apply bA_)); refine blk_put (cs := #[.int .u64 0, .int .u64 0]) ?_ 1 _ rfl; (with_reducible repeat (first | apply bN_ | apply bD_ | apply bA_)); refine blk_put (cs := #[.int .u64 0, .int .u64 0]) ?_ 0 _ rfl; exact bk_) Try.underlying26 rfl (by kernel_rfl)) rfl ?_
  exact ⟨vv_, bz_⟩

/-! ### lockgateref04_ToS: function 70 -/
def lockgateref04_ToS.f (a0_0 : Int) (a0_1 : Int) : Option (Int × Int) := (lockgateref04_top.f).bind fun t700 => ((lockgateref04_top.f).bind fun t701 => (if ((decide (a0_0 < t700)) != (decide (a0_1 < t701))) = true then ((lockgateref04_SAll.f).bind fun bt702 => (some (bt702.1, bt702.2))) else (some (wrap64 (a0_0), wrap64 (a0_1)))))
set_option maxHeartbeats 8000000 in
set_option maxRecDepth 100000 in
theorem lockgateref04_ToS.calls (a0_0 : Int) (a0_1 : Int) (r1 : Int) (r2 : Int) (w : World) (h : lockgateref04_ToS.f a0_0 a0_1 = some (r1, r2)) :
 Calls Try.prog 70 #[.agg #[.int .u64 a0_0, .int .u64 a0_1]] w fun e w' => e = .returned (.agg #[.int .i64 r1, .int .i64 r2]) ∧ Below w.heap.size w w' := by
 have hu26 := Try.underlying26
 have hu28 := Try.underlying28
 have HB := Aside0.mk (Below.refl w.heap.size w)
 have H : ((lockgateref04_top.f).bind fun t700 => ((lockgateref04_top.f).bind fun t701 => (if ((decide (a0_0 < t700)) != (decide (a0_1 < t701))) = true then ((lockgateref04_SAll.f).bind fun bt702 => (some (bt702.1, bt702.2))) else (some (wrap64 (a0_0), wrap64 (a0_1)))))) = some (r1, r2) := h
 clear h
 replace H := Option.bind_eq_some_iff.mp H
 obtain ⟨t700, A20, H⟩ := H
 replace H : ((lockgateref04_top.f).bind fun t701 => (if ((decide (a0_0 < t700)) != (decide (a0_1 < t701))) = true then ((lockgateref04_SAll.f).bind fun bt702 => (some (bt702.1, bt702.2))) else (some (wrap64 (a0_0), wrap64 (a0_1))))) = some (r1, r2) := H
 have A2 := Aside0.mk A20
 clear A20
 replace H := Option.bind_eq_some_iff.mp H
 obtain ⟨t701, A30, H⟩ := H
 replace H : (if ((decide (a0_0 < t700)) != (decide (a0_1 < t701))) = true then ((lockgateref04_SAll.f).bind fun bt702 => (some (bt702.1, bt702.2))) else (some (wrap64 (a0_0), wrap64 (a0_1)))) = some (r1, r2) := H
 have A3 := Aside0.mk A30
 clear A30
 have hdd_ : t700 = t701 := (Option.some.inj (A2.out.symm.trans A3.out))
 subst hdd_
 by_cases c4 : ((decide (a0_0 < t700)) != (decide (a0_1 < t700))) = true
 ·rw [if_pos c4] at H
  have c4b0 : ((decide (a0_0 < t700)) != (decide (a0_1 < t700))) = true := c4
  (try (have c4b1 : decide ((decide (a0_0 < t700)) = (decide (a0_1 < t700))) = false := by simpa using c4))
  (try (have c4b2 : ((decide (a0_0 < t700)) == (decide (a0_1 < t700))) = false := by simpa using c4))
  (try (have c4b3 : ¬ ((decide (a0_0 < t700)) = (decide (a0_1 < t700))) := by simpa using c4))
  clear c4
  replace H := Option.bind_eq_some_iff.mp H
  obtain ⟨⟨t702, t703⟩, A50, H⟩ := H
  replace H : (some (t702, t703)) = some (r1, r2) := H
  have A5 := Aside0.mk A50
  clear A50
  simp only [Option.some.injEq, Prod.mk.injEq] at H
  obtain ⟨rfl, rfl⟩ := H
  go_enter Try.func70, Try.ntmps70
  go_wp2_with (first | ((with_reducible refine gate_dst (N := 1) rfl ?_); refine bx_ 1 #[.int .u64 a0_0, .int .u64 a0_1] 26 ?_; intro gb698 hg w6 BK698 hb; have GW698 := bg_ hg; have GE698 := GW698; replace HB := bl_ hb; clear hb hg; have hcqgb698_0 := c0_ BK698; have hfqgb698_0 := fz_ BK698 0; have hcqgb698_1 := c1_ BK698; have hfqgb698_1 := fz_ BK698 1) | ((with_reducible refine gate_dst (N := 2) rfl ?_); refine bx_ 2 #[.int .i64 0, .int .i64 0] 28 ?_; intro gb699 hg w7 BK699 hb; have GW699 := bg_ hg; have GE699 := GW699; have NB698_699 := bm_ hg BK698; have NB699_698 := bn_ hg BK698; replace BK698 := bb_ hb BK698; replace HB := bl_ hb; clear hb hg; have hcqgb699_0 := c0_ BK699; have hfqgb699_0 := fz_ BK699 0; have hcqgb699_1 := c1_ BK699; have hfqgb699_1 := fz_ BK699 1; have hnb8 := NB698_699.out; have hnc8 := NB699_698.out; have hcz9_0 := c0_ BK698; have hcz9_1 := c1_ BK698; have hfz9_0 := fz_ BK698 0; have hfz9_1 := fz_ BK698 1) | (go_at_call 75; (with_reducible refine (lockgateref04_top.calls  t700 _ A2.out).mono ?_); rintro e w' ⟨rfl, ⟨nd, rfl⟩⟩; (try first | exact ⟨rfl, _, World.drewN_drewN _ _ _⟩ | exact ⟨rfl, _, Eq.trans (World.drewN_drewN _ _ _) (congrArg (World.drewN _) (Nat.add_assoc _ _ _))⟩)) | (go_at_call 75; (with_reducible refine (lockgateref04_top.calls  t700 _ A3.out).mono ?_); rintro e w' ⟨rfl, ⟨nd, rfl⟩⟩; (try first | exact ⟨rfl, _, World.drewN_drewN _ _ _⟩ | exact ⟨rfl, _, Eq.trans (World.drewN_drewN _ _ _) (congrArg (World.drewN _) (Nat.add_assoc _ _ _))⟩)) | (go_at_call 39; (with_reducible refine (lockgateref04_SAll.calls  t702 t703 _ A5.out).mono ?_); rintro e w10 ⟨rfl, hb⟩; replace BK698 := bb_ hb BK698; replace BK699 := bb_ hb BK699; replace HB := bl_ hb; (try clear hb); (try clear hb2); (try clear hk); (try clear hi); have hcz11_0 := c0_ BK699; have hcz11_1 := c1_ BK699; have hfz11_0 := fz_ BK699 0; have hfz11_1 := fz_ BK699 1))
  repeat (go_quiet (first | ((with_reducible refine gate_dst (N := 1) rfl ?_); refine bx_ 1 #[.int .u64 a0_0, .int .u64 a0_1] 26 ?_; intro gb698 hg w6 BK698 hb; have GW698 := bg_ hg; have GE698 := GW698; replace HB := bl_ hb; clear hb hg; have hcqgb698_0 := c0_ BK698; have hfqgb698_0 := fz_ BK698 0; have hcqgb698_1 := c1_ BK698; have hfqgb698_1 := fz_ BK698 1) | ((with_reducible refine gate_dst (N := 2) rfl ?_); refine bx_ 2 #[.int .i64 0, .int .i64 0] 28 ?_; intro gb699 hg w7 BK699 hb; have GW699 := bg_ hg; have GE699 := GW699; have NB698_699 := bm_ hg BK698; have NB699_698 := bn_ hg BK698; replace BK698 := bb_ hb BK698; replace HB := bl_ hb; clear hb hg; have hcqgb699_0 := c0_ BK699; have hfqgb699_0 := fz_ BK699 0; have hcqgb699_1 := c1_ BK699; have hfqgb699_1 := fz_ BK699 1; have hnb8 := NB698_699.out; have hnc8 := NB699_698.out; have hcz9_0 := c0_ BK698; have hcz9_1 := c1_ BK698; have hfz9_0 := fz_ BK698 0; have hfz9_1 := fz_ BK698 1) | (go_at_call 75; (with_reducible refine (lockgateref04_top.calls  t700 _ A2.out).mono ?_); rintro e w' ⟨rfl, ⟨nd, rfl⟩⟩; (try first | exact ⟨rfl, _, World.drewN_drewN _ _ _⟩ | exact ⟨rfl, _, Eq.trans (World.drewN_drewN _ _ _) (congrArg (World.drewN _) (Nat.add_assoc _ _ _))⟩)) | (go_at_call 75; (with_reducible refine (lockgateref04_top.calls  t700 _ A3.out).mono ?_); rintro e w' ⟨rfl, ⟨nd, rfl⟩⟩; (try first | exact ⟨rfl, _, World.drewN_drewN _ _ _⟩ | exact ⟨rfl, _, Eq.trans (World.drewN_drewN _ _ _) (congrArg (World.drewN _) (Nat.add_assoc _ _ _))⟩)) | (go_at_call 39; (with_reducible refine (lockgateref04_SAll.calls  t702 t703 _ A5.out).mono ?_); rintro e w10 ⟨rfl, hb⟩; replace BK698 := bb_ hb BK698; replace BK699 := bb_ hb BK699; replace HB := bl_ hb; (try clear hb); (try clear hb2); (try clear hk); (try clear hi); have hcz11_0 := c0_ BK699; have hcz11_1 := c1_ BK699; have hfz11_0 := fz_ BK699 0; have hfz11_1 := fz_ BK699 1)); try go_wp2_with (first | ((with_reducible refine gate_dst (N := 1) rfl ?_); refine bx_ 1 #[.int .u64 a0_0, .int .u64 a0_1] 26 ?_; intro gb698 hg w6 BK698 hb; have GW698 := bg_ hg; have GE698 := GW698; replace HB := bl_ hb; clear hb hg; have hcqgb698_0 := c0_ BK698; have hfqgb698_0 := fz_ BK698 0; have hcqgb698_1 := c1_ BK698; have hfqgb698_1 := fz_ BK698 1) | ((with_reducible refine gate_dst (N := 2) rfl ?_); refine bx_ 2 #[.int .i64 0, .int .i64 0] 28 ?_; intro gb699 hg w7 BK699 hb; have GW699 := bg_ hg; have GE699 := GW699; have NB698_699 := bm_ hg BK698; have NB699_698 := bn_ hg BK698; replace BK698 := bb_ hb BK698; replace HB := bl_ hb; clear hb hg; have hcqgb699_0 := c0_ BK699; have hfqgb699_0 := fz_ BK699 0; have hcqgb699_1 := c1_ BK699; have hfqgb699_1 := fz_ BK699 1; have hnb8 := NB698_699.out; have hnc8 := NB699_698.out; have hcz9_0 := c0_ BK698; have hcz9_1 := c1_ BK698; have hfz9_0 := fz_ BK698 0; have hfz9_1 := fz_ BK698 1) | (go_at_call 75; (with_reducible refine (lockgateref04_top.calls  t700 _ A2.out).mono ?_); rintro e w' ⟨rfl, ⟨nd, rfl⟩⟩; (try first | exact ⟨rfl, _, World.drewN_drewN _ _ _⟩ | exact ⟨rfl, _, Eq.trans (World.drewN_drewN _ _ _) (congrArg (World.drewN _) (Nat.add_assoc _ _ _))⟩)) | (go_at_call 75; (with_reducible refine (lockgateref04_top.calls  t700 _ A3.out).mono ?_); rintro e w' ⟨rfl, ⟨nd, rfl⟩⟩; (try first | exact ⟨rfl, _, World.drewN_drewN _ _ _⟩ | exact ⟨rfl, _, Eq.trans (World.drewN_drewN _ _ _) (congrArg (World.drewN _) (Nat.add_assoc _ _ _))⟩)) | (go_at_call 39; (with_reducible refine (lockgateref04_SAll.calls  t702 t703 _ A5.out).mono ?_); rintro e w10 ⟨rfl, hb⟩; replace BK698 := bb_ hb BK698; replace BK699 := bb_ hb BK699; replace HB := bl_ hb; (try clear hb); (try clear hb2); (try clear hk); (try clear hi); have hcz11_0 := c0_ BK699; have hcz11_1 := c1_ BK699; have hfz11_0 := fz_ BK699 0; have hfz11_1 := fz_ BK699 1)))
  refine bodyPost_ret (results_cell_row rfl _ _ gb699 28 #[.int .i64 t702, .int .i64 t703] (0, 0) _ rfl (by (with_reducible repeat (first | apply bN_ | apply bD_ | apply bA_)); refine blk_put (cs := #[.int .i64 t702, .int .i64 0]) ?_ 1 _ rfl; (with_reducible repeat (first | apply bN_ | apply bD_ | apply bA_)); refine blk_put (cs := #[.int .i64 0, .int .i64 0]) ?_ 0 _ rfl; exact bk_) Try.underlying28 rfl (by kernel_rfl)) rfl ?_
  exact ⟨vv_, bz_⟩
 ·rw [if_neg c4] at H
  have c4b0 : ((decide (a0_0 < t700)) != (decide (a0_1 < t700))) = false := by simpa using c4
  (try (have c4b1 : decide ((decide (a0_0 < t700)) = (decide (a0_1 < t700))) = true := by simpa using c4))
  (try (have c4b2 : ((decide (a0_0 < t700)) == (decide (a0_1 < t700))) = true := by simpa using c4))
  clear c4
  simp only [Option.some.injEq, Prod.mk.injEq] at H
  obtain ⟨rfl, rfl⟩ := H
  go_enter Try.func70, Try.ntmps70
  go_wp2_with (first | ((with_reducible refine gate_dst (N := 1) rfl ?_); refine bx_ 1 #[.int .u64 a0_0, .int .u64 a0_1] 26 ?_; intro gb698 hg w12 BK698 hb; have GW698 := bg_ hg; have GE698 := GW698; replace HB := bl_ hb; clear hb hg; have hcqgb698_0 := c0_ BK698; have hfqgb698_0 := fz_ BK698 0; have hcqgb698_1 := c1_ BK698; have hfqgb698_1 := fz_ BK698 1) | ((with_reducible refine gate_dst (N := 2) rfl ?_); refine bx_ 2 #[.int .i64 0, .int .i64 0] 28 ?_; intro gb699 hg w13 BK699 hb; have GW699 := bg_ hg; have GE699 := GW699; have NB698_699 := bm_ hg BK698; have NB699_698 := bn_ hg BK698; replace BK698 := bb_ hb BK698; replace HB := bl_ hb; clear hb hg; have hcqgb699_0 := c0_ BK699; have hfqgb699_0 := fz_ BK699 0; have hcqgb699_1 := c1_ BK699; have hfqgb699_1 := fz_ BK699 1; have hnb14 := NB698_699.out; have hnc14 := NB699_698.out; have hcz15_0 := c0_ BK698; have hcz15_1 := c1_ BK698; have hfz15_0 := fz_ BK698 0; have hfz15_1 := fz_ BK698 1) | (go_at_call 75; (with_reducible refine (lockgateref04_top.calls  t700 _ A2.out).mono ?_); rintro e w' ⟨rfl, ⟨nd, rfl⟩⟩; (try first | exact ⟨rfl, _, World.drewN_drewN _ _ _⟩ | exact ⟨rfl, _, Eq.trans (World.drewN_drewN _ _ _) (congrArg (World.drewN _) (Nat.add_assoc _ _ _))⟩)) | (go_at_call 75; (with_reducible refine (lockgateref04_top.calls  t700 _ A3.out).mono ?_); rintro e w' ⟨rfl, ⟨nd, rfl⟩⟩; (try first | exact ⟨rfl, _, World.drewN_drewN _ _ _⟩ | exact ⟨rfl, _, Eq.trans (World.drewN_drewN _ _ _) (congrArg (World.drewN _) (Nat.add_assoc _ _ _))⟩); have hcz16_0 := c0_ BK699; have hcz16_1 := c1_ BK699; have hfz16_0 := fz_ BK699 0; have hfz16_1 := fz_ BK699 1))
  repeat (go_quiet (first | ((with_reducible refine gate_dst (N := 1) rfl ?_); refine bx_ 1 #[.int .u64 a0_0, .int .u64 a0_1] 26 ?_; intro gb698 hg w12 BK698 hb; have GW698 := bg_ hg; have GE698 := GW698; replace HB := bl_ hb; clear hb hg; have hcqgb698_0 := c0_ BK698; have hfqgb698_0 := fz_ BK698 0; have hcqgb698_1 := c1_ BK698; have hfqgb698_1 := fz_ BK698 1) | ((with_reducible refine gate_dst (N := 2) rfl ?_); refine bx_ 2 #[.int .i64 0, .int .i64 0] 28 ?_; intro gb699 hg w13 BK699 hb; have GW699 := bg_ hg; have GE699 := GW699; have NB698_699 := bm_ hg BK698; have NB699_698 := bn_ hg BK698; replace BK698 := bb_ hb BK698; replace HB := bl_ hb; clear hb hg; have hcqgb699_0 := c0_ BK699; have hfqgb699_0 := fz_ BK699 0; have hcqgb699_1 := c1_ BK699; have hfqgb699_1 := fz_ BK699 1; have hnb14 := NB698_699.out; have hnc14 := NB699_698.out; have hcz15_0 := c0_ BK698; have hcz15_1 := c1_ BK698; have hfz15_0 := fz_ BK698 0; have hfz15_1 := fz_ BK698 1) | (go_at_call 75; (with_reducible refine (lockgateref04_top.calls  t700 _ A2.out).mono ?_); rintro e w' ⟨rfl, ⟨nd, rfl⟩⟩; (try first | exact ⟨rfl, _, World.drewN_drewN _ _ _⟩ | exact ⟨rfl, _, Eq.trans (World.drewN_drewN _ _ _) (congrArg (World.drewN _) (Nat.add_assoc _ _ _))⟩)) | (go_at_call 75; (with_reducible refine (lockgateref04_top.calls  t700 _ A3.out).mono ?_); rintro e w' ⟨rfl, ⟨nd, rfl⟩⟩; (try first | exact ⟨rfl, _, World.drewN_drewN _ _ _⟩ | exact ⟨rfl, _, Eq.trans (World.drewN_drewN _ _ _) (congrArg (World.drewN _) (Nat.add_assoc _ _ _))⟩); have hcz16_0 := c0_ BK699; have hcz16_1 := c1_ BK699; have hfz16_0 := fz_ BK699 0; have hfz16_1 := fz_ BK699 1)); try go_wp2_with (first | ((with_reducible refine gate_dst (N := 1) rfl ?_); refine bx_ 1 #[.int .u64 a0_0, .int .u64 a0_1] 26 ?_; intro gb698 hg w12 BK698 hb; have GW698 := bg_ hg; have GE698 := GW698; replace HB := bl_ hb; clear hb hg; have hcqgb698_0 := c0_ BK698; have hfqgb698_0 := fz_ BK698 0; have hcqgb698_1 := c1_ BK698; have hfqgb698_1 := fz_ BK698 1) | ((with_reducible refine gate_dst (N := 2) rfl ?_); refine bx_ 2 #[.int .i64 0, .int .i64 0] 28 ?_; intro gb699 hg w13 BK699 hb; have GW699 := bg_ hg; have GE699 := GW699; have NB698_699 := bm_ hg BK698; have NB699_698 := bn_ hg BK698; replace BK698 := bb_ hb BK698; replace HB := bl_ hb; clear hb hg; have hcqgb699_0 := c0_ BK699; have hfqgb699_0 := fz_ BK699 0; have hcqgb699_1 := c1_ BK699; have hfqgb699_1 := fz_ BK699 1; have hnb14 := NB698_699.out; have hnc14 := NB699_698.out; have hcz15_0 := c0_ BK698; have hcz15_1 := c1_ BK698; have hfz15_0 := fz_ BK698 0; have hfz15_1 := fz_ BK698 1) | (go_at_call 75; (with_reducible refine (lockgateref04_top.calls  t700 _ A2.out).mono ?_); rintro e w' ⟨rfl, ⟨nd, rfl⟩⟩; (try first | exact ⟨rfl, _, World.drewN_drewN _ _ _⟩ | exact ⟨rfl, _, Eq.trans (World.drewN_drewN _ _ _) (congrArg (World.drewN _) (Nat.add_assoc _ _ _))⟩)) | (go_at_call 75; (with_reducible refine (lockgateref04_top.calls  t700 _ A3.out).mono ?_); rintro e w' ⟨rfl, ⟨nd, rfl⟩⟩; (try first | exact ⟨rfl, _, World.drewN_drewN _ _ _⟩ | exact ⟨rfl, _, Eq.trans (World.drewN_drewN _ _ _) (congrArg (World.drewN _) (Nat.add_assoc _ _ _))⟩); have hcz16_0 := c0_ BK699; have hcz16_1 := c1_ BK699; have hfz16_0 := fz_ BK699 0; have hfz16_1 := fz_ BK699 1)))
  refine bodyPost_ret (results_cell_row rfl _ _ gb699 28 #[.int .i64 (wrap64 (a0_0)), .int .i64 (wrap64 (a0_1))] (0, 0) _ rfl (by (with_reducible repeat (first | apply bN_ | apply bD_ | apply bA_)); refine blk_put (cs := #[.int .i64 (wrap64 (a0_0)), .int .i64 0]) ?_ 1 _ rfl; (with_reducible repeat (first | apply bN_ | apply bD_ | apply bA_)); refine blk_put (cs := #[.int .i64 0, .int .i64 0]) ?_ 0 _ rfl; exact bk_) Try.underlying28 rfl (by kernel_rfl)) rfl ?_
  exact ⟨vv_, bz_⟩

end Go.Proofs.Ytnephcecobocdaa.PA
