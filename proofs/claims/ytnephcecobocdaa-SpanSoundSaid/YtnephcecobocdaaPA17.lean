-- PRINTED by print.py (a twelfth state) out of the translation. Not trusted: Lean checks it.
import Derived.Test.YtnephcecobocdaaWTab
import Derived.Test.YtnephcecobocdaaPA0
import Derived.Test.YtnephcecobocdaaSq
import Derived.Test.YtnephcecobocdaaPA15
namespace Go.Proofs.Ytnephcecobocdaa.PA
open Go.RowKit Go.Proofs.YtnephcecobocdaaW.PrintWords Go.Proofs.YtnephcecobocdaaW.PrintLast Go.Proofs.YtnephcecobocdaaW.PrintMore
attribute [local go_sem] max2_int min2_int max_two min_two max_three min_three max_four min_four   -- for this text's walks alone
set_option linter.unusedVariables false
set_option linter.unusedSimpArgs false

/-! ### lockgateref04_UAdd: function 60 -/
def lockgateref04_UAdd.f (a0_0 : Int) (a0_1 : Int) (a1_0 : Int) (a1_1 : Int) : Option (Int × Int) := (lockgateref04_UAll.f).bind fun bt640 => (if a0_1 > (IntKind.u64.wrap (bt640.2 - a1_1)) then ((lockgateref04_UAll.f).bind fun bt642 => (some (bt642.1, bt642.2))) else (some (IntKind.u64.wrap (a0_0 + a1_0), IntKind.u64.wrap (a0_1 + a1_1))))
def lockgateref04_UAdd.T1 : Bool × List (List Nat × List Nat) := (true, [([], []), ([0], [0]), ([], []), ([2], [2]), ([], []), ([4], [4]), ([3, 5], [3, 5]), ([1, 6], [1, 6])])
def lockgateref04_UAdd.B1 : List Nat := [0, 1, 0, 4, 0, 16, 60, 127]
theorem lockgateref04_UAdd.tab1 : rtab .any (opsOf Try.f60 1) = lockgateref04_UAdd.T1 := by kernel_rfl
theorem lockgateref04_UAdd.bits1 : waitsOk lockgateref04_UAdd.T1.2 lockgateref04_UAdd.B1 = true := by kernel_rfl
set_option maxHeartbeats 8000000 in
set_option maxRecDepth 100000 in
theorem lockgateref04_UAdd.calls (a0_0 : Int) (a0_1 : Int) (a1_0 : Int) (a1_1 : Int) (r1 : Int) (r2 : Int) (w : World) (h : lockgateref04_UAdd.f a0_0 a0_1 a1_0 a1_1 = some (r1, r2)) :
 Calls Try.prog 60 #[.agg #[.int .u64 a0_0, .int .u64 a0_1], .agg #[.int .u64 a1_0, .int .u64 a1_1]] w fun e w' => e = .returned (.agg #[.int .u64 r1, .int .u64 r2]) ∧ Below w.heap.size w w' := by
 have hu26 := Try.underlying26
 have HB := Aside0.mk (Below.refl w.heap.size w)
 have H : ((lockgateref04_UAll.f).bind fun bt640 => (if a0_1 > (IntKind.u64.wrap (bt640.2 - a1_1)) then ((lockgateref04_UAll.f).bind fun bt642 => (some (bt642.1, bt642.2))) else (some (IntKind.u64.wrap (a0_0 + a1_0), IntKind.u64.wrap (a0_1 + a1_1))))) = some (r1, r2) := h
 clear h
 replace H := Option.bind_eq_some_iff.mp H
 obtain ⟨⟨t640, t641⟩, A30, H⟩ := H
 replace H : (if a0_1 > (IntKind.u64.wrap (t641 - a1_1)) then ((lockgateref04_UAll.f).bind fun bt642 => (some (bt642.1, bt642.2))) else (some (IntKind.u64.wrap (a0_0 + a1_0), IntKind.u64.wrap (a0_1 + a1_1)))) = some (r1, r2) := H
 have A3 := Aside0.mk A30
 clear A30
 by_cases c4 : a0_1 > (IntKind.u64.wrap (t641 - a1_1))
 ·rw [if_pos c4] at H
  have c4b0 : decide ((IntKind.u64.wrap (t641 - a1_1)) < a0_1) = true := decide_eq_true c4
  clear c4
  replace H := Option.bind_eq_some_iff.mp H
  obtain ⟨⟨t642, t643⟩, A50, H⟩ := H
  replace H : (some (t642, t643)) = some (r1, r2) := H
  have A5 := Aside0.mk A50
  clear A50
  simp only [Option.some.injEq, Prod.mk.injEq] at H
  obtain ⟨rfl, rfl⟩ := H
  go_enter Try.func60, Try.ntmps60
  try go_wp2_with (first | ((with_reducible refine gate_dst (N := 2) rfl ?_); refine bx_ 2 #[.int .u64 a0_0, .int .u64 a0_1] 26 ?_; intro gb637 hg w6 BK637 hb; have GW637 := bg_ hg; have GE637 := GW637; replace HB := bl_ hb; clear hb hg) | ((with_reducible refine gate_dst (N := 3) rfl ?_); refine bx_ 3 #[.int .u64 a1_0, .int .u64 a1_1] 26 ?_; intro gb638 hg w7 BK638 hb; have GW638 := bg_ hg; have GE638 := GW638; have NB637_638 := bm_ hg BK637; have NB638_637 := bn_ hg BK637; replace BK637 := bb_ hb BK637; replace HB := bl_ hb; clear hb hg) | ((with_reducible refine gate_dst (N := 4) rfl ?_); refine bx_ 4 #[.int .u64 0, .int .u64 0] 26 ?_; intro gb639 hg w8 BK639 hb; have GW639 := bg_ hg; have GE639 := GW639; have NB637_639 := bm_ hg BK637; have NB639_637 := bn_ hg BK637; have NB638_639 := bm_ hg BK638; have NB639_638 := bn_ hg BK638; replace BK637 := bb_ hb BK637; replace BK638 := bb_ hb BK638; replace HB := bl_ hb; clear hb hg))
  (repeat (simp only [fl26_0, fl26_1]; go_wp2_with (first | ((with_reducible refine gate_dst (N := 2) rfl ?_); refine bx_ 2 #[.int .u64 a0_0, .int .u64 a0_1] 26 ?_; intro gb637 hg w6 BK637 hb; have GW637 := bg_ hg; have GE637 := GW637; replace HB := bl_ hb; clear hb hg) | ((with_reducible refine gate_dst (N := 3) rfl ?_); refine bx_ 3 #[.int .u64 a1_0, .int .u64 a1_1] 26 ?_; intro gb638 hg w7 BK638 hb; have GW638 := bg_ hg; have GE638 := GW638; have NB637_638 := bm_ hg BK637; have NB638_637 := bn_ hg BK637; replace BK637 := bb_ hb BK637; replace HB := bl_ hb; clear hb hg) | ((with_reducible refine gate_dst (N := 4) rfl ?_); refine bx_ 4 #[.int .u64 0, .int .u64 0] 26 ?_; intro gb639 hg w8 BK639 hb; have GW639 := bg_ hg; have GE639 := GW639; have NB637_639 := bm_ hg BK637; have NB639_637 := bn_ hg BK637; have NB638_639 := bm_ hg BK638; have NB639_638 := bn_ hg BK638; replace BK637 := bb_ hb BK637; replace BK638 := bb_ hb BK638; replace HB := bl_ hb; clear hb hg))))
  replace BK637 := Aside0.mk (blk_drew BK637.out)
  replace BK638 := Aside0.mk (blk_drew BK638.out)
  replace BK639 := Aside0.mk (blk_drew BK639.out)
  replace HB := Aside0.mk (below_drew1 HB.out)
  refine start_ (n := 8) (S := fun w' => w'.cell? ⟨gb637, 0, none⟩ = some (.int .u64 a0_0) ∧ w'.cell? ⟨gb637, 1, none⟩ = some (.int .u64 a0_1) ∧ w'.cell? ⟨gb638, 0, none⟩ = some (.int .u64 a1_0) ∧ w'.cell? ⟨gb638, 1, none⟩ = some (.int .u64 a1_1)) (ds := []) #[n_,n_,n_,n_,n_,n_,n_,n_] (by kernel_rfl) rfl rfl ⟨c0_ BK637, c1_ BK637, c0_ BK638, c1_ BK638⟩ (fun hHeld => ?_); refine with_tabW lockgateref04_UAdd.tab1 lockgateref04_UAdd.bits1 (fun HT_ HW_ => ?_)
  generalize w8.drew = w9 at BK637 BK638 BK639 HB hHeld ⊢
  refine pq_ 0 5 #[y_,n_,n_,n_,n_,n_,n_,n_] ?_
  refine pq_ 4 9 #[y_,n_,n_,n_,y_,n_,n_,n_] ?_
  refine tq1_ 1 6 #[y_,y_,n_,n_,y_,n_,n_,n_] hHeld ?_
  refine tq1_ 5 10 #[y_,y_,n_,n_,y_,y_,n_,n_] hHeld ?_
  refine one_ (i := 2) (N := some 7) #[y_,y_,y_,n_,y_,y_,n_,n_] rfl rfl (one_of HT_.out (by kernel_rfl)) (by decide) (fun K hK => ?_)
  refine goes_ Try.func73 (by kernel_rfl) rfl #[] (by rfl) rfl rfl (by (try simp only [List.map_toArray, List.map_cons, List.map_nil]); first | done | rfl) ?_
  with_reducible refine (lockgateref04_UAll.calls  t640 t641 _ A3.out).mono ?_
  rintro e w10 ⟨rfl, hb⟩
  refine ⟨_, rfl, ?_⟩
  replace BK637 := bb_ hb BK637
  replace BK638 := bb_ hb BK638
  replace BK639 := bb_ hb BK639
  replace HB := bl_ hb
  try clear hb
  refine hK.out _ _ ⟨c0_ BK637, c1_ BK637, c0_ BK638, c1_ BK638⟩ (fun hHeld => ?_)
  clear hK K
  refine norm_ (a' := ?_) ?_ ?_
  rotate_left
  ·show Act.put _ (some 7) _ = _
   simp only [Act.put, s1_, s2_, s3_, i64_w, i32_w]
   rfl
  refine pq_ 3 8 #[y_,y_,y_,y_,y_,y_,n_,n_] ?_
  refine pq_ 6 11 #[y_,y_,y_,y_,y_,y_,y_,n_] ?_
  refine pq_ 7 12 #[y_,y_,y_,y_,y_,y_,y_,y_] ?_
  refine done_ (done_of HT_.out (by kernel_rfl)) ?_
  try go_wp2_with (first | ((with_reducible refine gate_callee (f := 73) rfl ?_); refine goesL_ (some 13) rfl rfl Try.func73 (by kernel_rfl) rfl #[] rfl (by (try simp only [List.map_toArray, List.map_cons, List.map_nil]); first | done | rfl) ?_; (with_reducible refine (lockgateref04_UAll.calls  t642 t643 _ A5.out).mono ?_); rintro e w11 ⟨rfl, hb⟩; refine ⟨_, rfl, ?_⟩; replace BK637 := bb_ hb BK637; replace BK638 := bb_ hb BK638; replace BK639 := bb_ hb BK639; replace HB := bl_ hb; (try clear hb); (try clear hb2); (try clear hk); (try clear hi); have hnb12 := NB639_637.out; have hnc12 := NB637_639.out; have hnb13 := NB639_638.out; have hnc13 := NB638_639.out; have hcz14_0 := c0_ BK639; have hcz14_1 := c1_ BK639; have hfz14_0 := fz_ BK639 0; have hfz14_1 := fz_ BK639 1))
  (repeat (simp only [fl26_0, fl26_1]; go_wp2_with (first | ((with_reducible refine gate_callee (f := 73) rfl ?_); refine goesL_ (some 13) rfl rfl Try.func73 (by kernel_rfl) rfl #[] rfl (by (try simp only [List.map_toArray, List.map_cons, List.map_nil]); first | done | rfl) ?_; (with_reducible refine (lockgateref04_UAll.calls  t642 t643 _ A5.out).mono ?_); rintro e w11 ⟨rfl, hb⟩; refine ⟨_, rfl, ?_⟩; replace BK637 := bb_ hb BK637; replace BK638 := bb_ hb BK638; replace BK639 := bb_ hb BK639; replace HB := bl_ hb; (try clear hb); (try clear hb2); (try clear hk); (try clear hi); have hnb12 := NB639_637.out; have hnc12 := NB637_639.out; have hnb13 := NB639_638.out; have hnc13 := NB638_639.out; have hcz14_0 := c0_ BK639; have hcz14_1 := c1_ BK639; have hfz14_0 := fz_ BK639 0; have hfz14_1 := fz_ BK639 1))))
  refine bodyPost_ret (results_cell_row rfl _ _ gb639 26 #[.int .u64 t642, .int .u64 t643] (0, 0) _ rfl (by (with_reducible repeat (first | apply bN_ | apply bD_ | apply bA_)); refine blk_put (cs := #[.int .u64 t642, .int .u64 0]) ?_ 1 _ rfl; (with_reducible repeat (first | apply bN_ | apply bD_ | apply bA_)); refine blk_put (cs := #[.int .u64 0, .int .u64 0]) ?_ 0 _ rfl; exact bk_) Try.underlying26 rfl (by kernel_rfl)) rfl ?_
  exact ⟨by first | rfl | (exfalso; simp only [decide_eq_true_eq, decide_eq_false_iff_not] at *; omega) | (simp [errW_none, errW_some] <;> rfl) | (simp [*, errW_none, errW_some] <;> rfl), bz_⟩
 ·rw [if_neg c4] at H
  have c4b0 : decide ((IntKind.u64.wrap (t641 - a1_1)) < a0_1) = false := decide_eq_false c4
  clear c4
  simp only [Option.some.injEq, Prod.mk.injEq] at H
  obtain ⟨rfl, rfl⟩ := H
  go_enter Try.func60, Try.ntmps60
  try go_wp2_with (first | ((with_reducible refine gate_dst (N := 2) rfl ?_); refine bx_ 2 #[.int .u64 a0_0, .int .u64 a0_1] 26 ?_; intro gb637 hg w15 BK637 hb; have GW637 := bg_ hg; have GE637 := GW637; replace HB := bl_ hb; clear hb hg) | ((with_reducible refine gate_dst (N := 3) rfl ?_); refine bx_ 3 #[.int .u64 a1_0, .int .u64 a1_1] 26 ?_; intro gb638 hg w16 BK638 hb; have GW638 := bg_ hg; have GE638 := GW638; have NB637_638 := bm_ hg BK637; have NB638_637 := bn_ hg BK637; replace BK637 := bb_ hb BK637; replace HB := bl_ hb; clear hb hg) | ((with_reducible refine gate_dst (N := 4) rfl ?_); refine bx_ 4 #[.int .u64 0, .int .u64 0] 26 ?_; intro gb639 hg w17 BK639 hb; have GW639 := bg_ hg; have GE639 := GW639; have NB637_639 := bm_ hg BK637; have NB639_637 := bn_ hg BK637; have NB638_639 := bm_ hg BK638; have NB639_638 := bn_ hg BK638; replace BK637 := bb_ hb BK637; replace BK638 := bb_ hb BK638; replace HB := bl_ hb; clear hb hg))
  (repeat (simp only [fl26_0, fl26_1]; go_wp2_with (first | ((with_reducible refine gate_dst (N := 2) rfl ?_); refine bx_ 2 #[.int .u64 a0_0, .int .u64 a0_1] 26 ?_; intro gb637 hg w15 BK637 hb; have GW637 := bg_ hg; have GE637 := GW637; replace HB := bl_ hb; clear hb hg) | ((with_reducible refine gate_dst (N := 3) rfl ?_); refine bx_ 3 #[.int .u64 a1_0, .int .u64 a1_1] 26 ?_; intro gb638 hg w16 BK638 hb; have GW638 := bg_ hg; have GE638 := GW638; have NB637_638 := bm_ hg BK637; have NB638_637 := bn_ hg BK637; replace BK637 := bb_ hb BK637; replace HB := bl_ hb; clear hb hg) | ((with_reducible refine gate_dst (N := 4) rfl ?_); refine bx_ 4 #[.int .u64 0, .int .u64 0] 26 ?_; intro gb639 hg w17 BK639 hb; have GW639 := bg_ hg; have GE639 := GW639; have NB637_639 := bm_ hg BK637; have NB639_637 := bn_ hg BK637; have NB638_639 := bm_ hg BK638; have NB639_638 := bn_ hg BK638; replace BK637 := bb_ hb BK637; replace BK638 := bb_ hb BK638; replace HB := bl_ hb; clear hb hg))))
  replace BK637 := Aside0.mk (blk_drew BK637.out)
  replace BK638 := Aside0.mk (blk_drew BK638.out)
  replace BK639 := Aside0.mk (blk_drew BK639.out)
  replace HB := Aside0.mk (below_drew1 HB.out)
  refine start_ (n := 8) (S := fun w' => w'.cell? ⟨gb637, 0, none⟩ = some (.int .u64 a0_0) ∧ w'.cell? ⟨gb637, 1, none⟩ = some (.int .u64 a0_1) ∧ w'.cell? ⟨gb638, 0, none⟩ = some (.int .u64 a1_0) ∧ w'.cell? ⟨gb638, 1, none⟩ = some (.int .u64 a1_1)) (ds := []) #[n_,n_,n_,n_,n_,n_,n_,n_] (by kernel_rfl) rfl rfl ⟨c0_ BK637, c1_ BK637, c0_ BK638, c1_ BK638⟩ (fun hHeld => ?_); refine with_tabW lockgateref04_UAdd.tab1 lockgateref04_UAdd.bits1 (fun HT_ HW_ => ?_)
  generalize w17.drew = w18 at BK637 BK638 BK639 HB hHeld ⊢
  refine pq_ 0 5 #[y_,n_,n_,n_,n_,n_,n_,n_] ?_
  refine pq_ 4 9 #[y_,n_,n_,n_,y_,n_,n_,n_] ?_
  refine tq1_ 1 6 #[y_,y_,n_,n_,y_,n_,n_,n_] hHeld ?_
  refine tq1_ 5 10 #[y_,y_,n_,n_,y_,y_,n_,n_] hHeld ?_
  refine one_ (i := 2) (N := some 7) #[y_,y_,y_,n_,y_,y_,n_,n_] rfl rfl (one_of HT_.out (by kernel_rfl)) (by decide) (fun K hK => ?_)
  refine goes_ Try.func73 (by kernel_rfl) rfl #[] (by rfl) rfl rfl (by (try simp only [List.map_toArray, List.map_cons, List.map_nil]); first | done | rfl) ?_
  with_reducible refine (lockgateref04_UAll.calls  t640 t641 _ A3.out).mono ?_
  rintro e w19 ⟨rfl, hb⟩
  refine ⟨_, rfl, ?_⟩
  replace BK637 := bb_ hb BK637
  replace BK638 := bb_ hb BK638
  replace BK639 := bb_ hb BK639
  replace HB := bl_ hb
  try clear hb
  refine hK.out _ _ ⟨c0_ BK637, c1_ BK637, c0_ BK638, c1_ BK638⟩ (fun hHeld => ?_)
  clear hK K
  refine norm_ (a' := ?_) ?_ ?_
  rotate_left
  ·show Act.put _ (some 7) _ = _
   simp only [Act.put, s1_, s2_, s3_, i64_w, i32_w]
   rfl
  refine pq_ 3 8 #[y_,y_,y_,y_,y_,y_,n_,n_] ?_
  refine pq_ 6 11 #[y_,y_,y_,y_,y_,y_,y_,n_] ?_
  refine pq_ 7 12 #[y_,y_,y_,y_,y_,y_,y_,y_] ?_
  refine done_ (done_of HT_.out (by kernel_rfl)) ?_
  have hnb20 := NB637_638.out
  have hnc20 := NB638_637.out
  have hnb21 := NB637_639.out
  have hnc21 := NB639_637.out
  have hcz22_0 := c0_ BK637
  have hcz22_1 := c1_ BK637
  have hfz22_0 := fz_ BK637 0
  have hfz22_1 := fz_ BK637 1
  have hnb23 := NB638_639.out
  have hnc23 := NB639_638.out
  have hcz24_0 := c0_ BK638
  have hcz24_1 := c1_ BK638
  have hfz24_0 := fz_ BK638 0
  have hfz24_1 := fz_ BK638 1
  have hcz25_0 := c0_ BK639
  have hcz25_1 := c1_ BK639
  have hfz25_0 := fz_ BK639 0
  have hfz25_1 := fz_ BK639 1
  try go_wp2
  refine bodyPost_ret (results_cell_row rfl _ _ gb639 26 #[.int .u64 (IntKind.u64.wrap (a0_0 + a1_0)), .int .u64 (IntKind.u64.wrap (a0_1 + a1_1))] (0, 0) _ rfl (by (with_reducible repeat (first | apply bN_ | apply bD_ | apply bA_)); refine blk_put (cs := #[.int .u64 (IntKind.u64.wrap (a0_0 + a1_0)), .int .u64 0]) ?_ 1 _ rfl; (with_reducible repeat (first | apply bN_ | apply bD_ | apply bA_)); refine blk_put (cs := #[.int .u64 0, .int .u64 0]) ?_ 0 _ rfl; exact bk_) Try.underlying26 rfl (by kernel_rfl)) rfl ?_
  exact ⟨by first | rfl | (exfalso; simp only [decide_eq_true_eq, decide_eq_false_iff_not] at *; omega) | (simp [errW_none, errW_some] <;> rfl) | (simp [*, errW_none, errW_some] <;> rfl), bz_⟩

/-! ### lockgateref04_USub: function 61 -/
def lockgateref04_USub.f (a0_0 : Int) (a0_1 : Int) (a1_0 : Int) (a1_1 : Int) : Option (Int × Int) := if a0_0 < a1_1 then ((lockgateref04_UAll.f).bind fun bt647 => (some (bt647.1, bt647.2))) else (some (IntKind.u64.wrap (a0_0 - a1_1), IntKind.u64.wrap (a0_1 - a1_0)))
set_option maxHeartbeats 8000000 in
set_option maxRecDepth 100000 in
theorem lockgateref04_USub.calls (a0_0 : Int) (a0_1 : Int) (a1_0 : Int) (a1_1 : Int) (r1 : Int) (r2 : Int) (w : World) (h : lockgateref04_USub.f a0_0 a0_1 a1_0 a1_1 = some (r1, r2)) :
 Calls Try.prog 61 #[.agg #[.int .u64 a0_0, .int .u64 a0_1], .agg #[.int .u64 a1_0, .int .u64 a1_1]] w fun e w' => e = .returned (.agg #[.int .u64 r1, .int .u64 r2]) ∧ Below w.heap.size w w' := by
 have hu26 := Try.underlying26
 have HB := Aside0.mk (Below.refl w.heap.size w)
 have H : (if a0_0 < a1_1 then ((lockgateref04_UAll.f).bind fun bt647 => (some (bt647.1, bt647.2))) else (some (IntKind.u64.wrap (a0_0 - a1_1), IntKind.u64.wrap (a0_1 - a1_0)))) = some (r1, r2) := h
 clear h
 by_cases c3 : a0_0 < a1_1
 ·rw [if_pos c3] at H
  have c3b0 : decide (a0_0 < a1_1) = true := decide_eq_true c3
  clear c3
  replace H := Option.bind_eq_some_iff.mp H
  obtain ⟨⟨t647, t648⟩, A40, H⟩ := H
  replace H : (some (t647, t648)) = some (r1, r2) := H
  have A4 := Aside0.mk A40
  clear A40
  simp only [Option.some.injEq, Prod.mk.injEq] at H
  obtain ⟨rfl, rfl⟩ := H
  go_enter Try.func61, Try.ntmps61
  go_wp2_with (first | ((with_reducible refine gate_dst (N := 2) rfl ?_); refine bx_ 2 #[.int .u64 a0_0, .int .u64 a0_1] 26 ?_; intro gb644 hg w5 BK644 hb; have GW644 := bg_ hg; have GE644 := GW644; replace HB := bl_ hb; clear hb hg) | ((with_reducible refine gate_dst (N := 3) rfl ?_); refine bx_ 3 #[.int .u64 a1_0, .int .u64 a1_1] 26 ?_; intro gb645 hg w6 BK645 hb; have GW645 := bg_ hg; have GE645 := GW645; have NB644_645 := bm_ hg BK644; have NB645_644 := bn_ hg BK644; replace BK644 := bb_ hb BK644; replace HB := bl_ hb; clear hb hg) | ((with_reducible refine gate_dst (N := 4) rfl ?_); refine bx_ 4 #[.int .u64 0, .int .u64 0] 26 ?_; intro gb646 hg w7 BK646 hb; have GW646 := bg_ hg; have GE646 := GW646; have NB644_646 := bm_ hg BK644; have NB646_644 := bn_ hg BK644; have NB645_646 := bm_ hg BK645; have NB646_645 := bn_ hg BK645; replace BK644 := bb_ hb BK644; replace BK645 := bb_ hb BK645; replace HB := bl_ hb; clear hb hg; have hnb8 := NB644_645.out; have hnc8 := NB645_644.out; have hnb9 := NB644_646.out; have hnc9 := NB646_644.out; have hcz10_0 := c0_ BK644; have hcz10_1 := c1_ BK644; have hfz10_0 := fz_ BK644 0; have hfz10_1 := fz_ BK644 1; have hnb11 := NB645_646.out; have hnc11 := NB646_645.out; have hcz12_0 := c0_ BK645; have hcz12_1 := c1_ BK645; have hfz12_0 := fz_ BK645 0; have hfz12_1 := fz_ BK645 1) | ((with_reducible refine gate_callee (f := 73) rfl ?_); refine goesL_ (some 10) rfl rfl Try.func73 (by kernel_rfl) rfl #[] rfl (by (try simp only [List.map_toArray, List.map_cons, List.map_nil]); first | done | rfl) ?_; (with_reducible refine (lockgateref04_UAll.calls  t647 t648 _ A4.out).mono ?_); rintro e w13 ⟨rfl, hb⟩; refine ⟨_, rfl, ?_⟩; replace BK644 := bb_ hb BK644; replace BK645 := bb_ hb BK645; replace BK646 := bb_ hb BK646; replace HB := bl_ hb; (try clear hb); (try clear hb2); (try clear hk); (try clear hi); have hcz14_0 := c0_ BK646; have hcz14_1 := c1_ BK646; have hfz14_0 := fz_ BK646 0; have hfz14_1 := fz_ BK646 1))
  refine bodyPost_ret (results_cell_row rfl _ _ gb646 26 #[.int .u64 t647, .int .u64 t648] (0, 0) _ rfl (by (with_reducible repeat (first | apply bN_ | apply bD_ | apply bA_)); refine blk_put (cs := #[.int .u64 t647, .int .u64 0]) ?_ 1 _ rfl; (with_reducible repeat (first | apply bN_ | apply bD_ | apply bA_)); refine blk_put (cs := #[.int .u64 0, .int .u64 0]) ?_ 0 _ rfl; exact bk_) Try.underlying26 rfl (by kernel_rfl)) rfl ?_
  exact ⟨vv_, bz_⟩
 ·rw [if_neg c3] at H
  have c3b0 : decide (a0_0 < a1_1) = false := decide_eq_false c3
  clear c3
  simp only [Option.some.injEq, Prod.mk.injEq] at H
  obtain ⟨rfl, rfl⟩ := H
  go_enter Try.func61, Try.ntmps61
  go_wp2_with (first | ((with_reducible refine gate_dst (N := 2) rfl ?_); refine bx_ 2 #[.int .u64 a0_0, .int .u64 a0_1] 26 ?_; intro gb644 hg w15 BK644 hb; have GW644 := bg_ hg; have GE644 := GW644; replace HB := bl_ hb; clear hb hg) | ((with_reducible refine gate_dst (N := 3) rfl ?_); refine bx_ 3 #[.int .u64 a1_0, .int .u64 a1_1] 26 ?_; intro gb645 hg w16 BK645 hb; have GW645 := bg_ hg; have GE645 := GW645; have NB644_645 := bm_ hg BK644; have NB645_644 := bn_ hg BK644; replace BK644 := bb_ hb BK644; replace HB := bl_ hb; clear hb hg) | ((with_reducible refine gate_dst (N := 4) rfl ?_); refine bx_ 4 #[.int .u64 0, .int .u64 0] 26 ?_; intro gb646 hg w17 BK646 hb; have GW646 := bg_ hg; have GE646 := GW646; have NB644_646 := bm_ hg BK644; have NB646_644 := bn_ hg BK644; have NB645_646 := bm_ hg BK645; have NB646_645 := bn_ hg BK645; replace BK644 := bb_ hb BK644; replace BK645 := bb_ hb BK645; replace HB := bl_ hb; clear hb hg; have hnb18 := NB644_645.out; have hnc18 := NB645_644.out; have hnb19 := NB644_646.out; have hnc19 := NB646_644.out; have hcz20_0 := c0_ BK644; have hcz20_1 := c1_ BK644; have hfz20_0 := fz_ BK644 0; have hfz20_1 := fz_ BK644 1; have hnb21 := NB645_646.out; have hnc21 := NB646_645.out; have hcz22_0 := c0_ BK645; have hcz22_1 := c1_ BK645; have hfz22_0 := fz_ BK645 0; have hfz22_1 := fz_ BK645 1; have hcz23_0 := c0_ BK646; have hcz23_1 := c1_ BK646; have hfz23_0 := fz_ BK646 0; have hfz23_1 := fz_ BK646 1))
  refine bodyPost_ret (results_cell_row rfl _ _ gb646 26 #[.int .u64 (IntKind.u64.wrap (a0_0 - a1_1)), .int .u64 (IntKind.u64.wrap (a0_1 - a1_0))] (0, 0) _ rfl (by (with_reducible repeat (first | apply bN_ | apply bD_ | apply bA_)); refine blk_put (cs := #[.int .u64 (IntKind.u64.wrap (a0_0 - a1_1)), .int .u64 0]) ?_ 1 _ rfl; (with_reducible repeat (first | apply bN_ | apply bD_ | apply bA_)); refine blk_put (cs := #[.int .u64 0, .int .u64 0]) ?_ 0 _ rfl; exact bk_) Try.underlying26 rfl (by kernel_rfl)) rfl ?_
  exact ⟨vv_, bz_⟩

end Go.Proofs.Ytnephcecobocdaa.PA
