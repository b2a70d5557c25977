-- PRINTED by print.py (a twelfth state) out of the translation. Not trusted: Lean checks it.
import Derived.Test.YtnephcecobocdaaWTab
import Derived.Test.YtnephcecobocdaaPA0
import Derived.Test.YtnephcecobocdaaSq
import Derived.Test.YtnephcecobocdaaPA15
namespace Go.Proofs.Ytnephcecobocdaa.PA
open Go.RowKit Go.Proofs.YtnephcecobocdaaW.PrintWords Go.Proofs.YtnephcecobocdaaW.PrintLast Go.Proofs.YtnephcecobocdaaW.PrintMore
attribute [local go_sem] max2_int min2_int max_two min_two max_three min_three max_four min_four   -- for this text's walks alone
set_option linter.unusedVariables false
set_option linter.unusedSimpArgs false

/-! ### lockgateref04_UMul: function 62 -/
def lockgateref04_UMul.f (a0_0 : Int) (a0_1 : Int) (a1_0 : Int) (a1_1 : Int) : Option (Int × Int) := if a1_1 = 0 then (some (IntKind.u64.wrap (a0_0 * a1_0), IntKind.u64.wrap (a0_1 * a1_1))) else ((lockgateref04_UAll.f).bind fun bt652 => (if a0_1 > (IntKind.u64.wrap (Int.tdiv bt652.2 a1_1)) then ((lockgateref04_UAll.f).bind fun bt654 => (some (bt654.1, bt654.2))) else (some (IntKind.u64.wrap (a0_0 * a1_0), IntKind.u64.wrap (a0_1 * a1_1)))))
def lockgateref04_UMul.T1 : Bool × List (List Nat × List Nat) := (true, [([], []), ([0], [0]), ([1], [1]), ([2], [2]), ([3], [3]), ([4, 3], [3, 4]), ([3, 3], [3]), ([6, 3], [3, 6]), ([3], [3]), ([8, 3], [3, 8]), ([7, 9, 3], [3, 7, 9]), ([5, 10, 3], [3, 5, 10]), ([3, 11], [3, 11])])
def lockgateref04_UMul.B1 : List Nat := [0, 1, 3, 7, 15, 31, 15, 79, 15, 271, 975, 2047, 4095]
theorem lockgateref04_UMul.tab1 : rtab .any (opsOf Try.f62 1) = lockgateref04_UMul.T1 := by kernel_rfl
theorem lockgateref04_UMul.bits1 : waitsOk lockgateref04_UMul.T1.2 lockgateref04_UMul.B1 = true := by kernel_rfl
set_option maxHeartbeats 8000000 in
set_option maxRecDepth 100000 in
theorem lockgateref04_UMul.calls (a0_0 : Int) (a0_1 : Int) (a1_0 : Int) (a1_1 : Int) (r1 : Int) (r2 : Int) (w : World) (h : lockgateref04_UMul.f a0_0 a0_1 a1_0 a1_1 = some (r1, r2)) :
 Calls Try.prog 62 #[.agg #[.int .u64 a0_0, .int .u64 a0_1], .agg #[.int .u64 a1_0, .int .u64 a1_1]] w fun e w' => e = .returned (.agg #[.int .u64 r1, .int .u64 r2]) ∧ Below w.heap.size w w' := by
 have hu26 := Try.underlying26
 have HB := Aside0.mk (Below.refl w.heap.size w)
 have H : (if a1_1 = 0 then (some (IntKind.u64.wrap (a0_0 * a1_0), IntKind.u64.wrap (a0_1 * a1_1))) else ((lockgateref04_UAll.f).bind fun bt652 => (if a0_1 > (IntKind.u64.wrap (Int.tdiv bt652.2 a1_1)) then ((lockgateref04_UAll.f).bind fun bt654 => (some (bt654.1, bt654.2))) else (some (IntKind.u64.wrap (a0_0 * a1_0), IntKind.u64.wrap (a0_1 * a1_1)))))) = some (r1, r2) := h
 clear h
 by_cases c3 : a1_1 = 0
 ·rw [if_pos c3] at H
  have c3b0 : (a1_1 == 0) = true := beq_iff_eq.mpr c3
  have c3b1 : (a1_1 != 0) = false := bne_eq_false_iff_eq.mpr c3
  clear c3
  simp only [Option.some.injEq, Prod.mk.injEq] at H
  obtain ⟨rfl, rfl⟩ := H
  go_enter Try.func62, Try.ntmps62
  try go_wp2_with (first | ((with_reducible refine gate_dst (N := 2) rfl ?_); refine bx_ 2 #[.int .u64 a0_0, .int .u64 a0_1] 26 ?_; intro gb649 hg w4 BK649 hb; have GW649 := bg_ hg; have GE649 := GW649; replace HB := bl_ hb; clear hb hg) | ((with_reducible refine gate_dst (N := 3) rfl ?_); refine bx_ 3 #[.int .u64 a1_0, .int .u64 a1_1] 26 ?_; intro gb650 hg w5 BK650 hb; have GW650 := bg_ hg; have GE650 := GW650; have NB649_650 := bm_ hg BK649; have NB650_649 := bn_ hg BK649; replace BK649 := bb_ hb BK649; replace HB := bl_ hb; clear hb hg) | ((with_reducible refine gate_dst (N := 4) rfl ?_); refine bx_ 4 #[.int .u64 0, .int .u64 0] 26 ?_; intro gb651 hg w6 BK651 hb; have GW651 := bg_ hg; have GE651 := GW651; have NB649_651 := bm_ hg BK649; have NB651_649 := bn_ hg BK649; have NB650_651 := bm_ hg BK650; have NB651_650 := bn_ hg BK650; replace BK649 := bb_ hb BK649; replace BK650 := bb_ hb BK650; replace HB := bl_ hb; clear hb hg))
  (repeat (simp only [fl26_0, fl26_1]; go_wp2_with (first | ((with_reducible refine gate_dst (N := 2) rfl ?_); refine bx_ 2 #[.int .u64 a0_0, .int .u64 a0_1] 26 ?_; intro gb649 hg w4 BK649 hb; have GW649 := bg_ hg; have GE649 := GW649; replace HB := bl_ hb; clear hb hg) | ((with_reducible refine gate_dst (N := 3) rfl ?_); refine bx_ 3 #[.int .u64 a1_0, .int .u64 a1_1] 26 ?_; intro gb650 hg w5 BK650 hb; have GW650 := bg_ hg; have GE650 := GW650; have NB649_650 := bm_ hg BK649; have NB650_649 := bn_ hg BK649; replace BK649 := bb_ hb BK649; replace HB := bl_ hb; clear hb hg) | ((with_reducible refine gate_dst (N := 4) rfl ?_); refine bx_ 4 #[.int .u64 0, .int .u64 0] 26 ?_; intro gb651 hg w6 BK651 hb; have GW651 := bg_ hg; have GE651 := GW651; have NB649_651 := bm_ hg BK649; have NB651_649 := bn_ hg BK649; have NB650_651 := bm_ hg BK650; have NB651_650 := bn_ hg BK650; replace BK649 := bb_ hb BK649; replace BK650 := bb_ hb BK650; replace HB := bl_ hb; clear hb hg))))
  replace BK649 := Aside0.mk (blk_drew BK649.out)
  replace BK650 := Aside0.mk (blk_drew BK650.out)
  replace BK651 := Aside0.mk (blk_drew BK651.out)
  replace HB := Aside0.mk (below_drew1 HB.out)
  refine start_ (n := 13) (S := fun w' => w'.cell? ⟨gb650, 0, none⟩ = some (.int .u64 a1_0) ∧ w'.cell? ⟨gb650, 1, none⟩ = some (.int .u64 a1_1)) (ds := []) #[n_,n_,n_,n_,n_,n_,n_,n_,n_,n_,n_,n_,n_] (by kernel_rfl) rfl rfl ⟨c0_ BK650, c1_ BK650⟩ (fun hHeld => ?_); refine with_tabW lockgateref04_UMul.tab1 lockgateref04_UMul.bits1 (fun HT_ HW_ => ?_)
  generalize w6.drew = w7 at BK649 BK650 BK651 HB hHeld ⊢
  refine pq_ 0 5 #[y_,n_,n_,n_,n_,n_,n_,n_,n_,n_,n_,n_,n_] ?_
  refine tq0_ 1 6 #[y_,y_,n_,n_,n_,n_,n_,n_,n_,n_,n_,n_,n_] hHeld ?_
  refine pq_ 2 7 #[y_,y_,y_,n_,n_,n_,n_,n_,n_,n_,n_,n_,n_] ?_
  refine pq_ 3 8 #[y_,y_,y_,y_,n_,n_,n_,n_,n_,n_,n_,n_,n_] ?_
  refine pu_ 4 9 #[y_,y_,y_,y_,y_,n_,n_,n_,n_,n_,n_,n_,n_] ?_
  refine pu_ 5 10 #[y_,y_,y_,y_,y_,y_,n_,n_,n_,n_,n_,n_,n_] ?_
  refine pu_ 6 11 #[y_,y_,y_,y_,y_,y_,y_,n_,n_,n_,n_,n_,n_] ?_
  refine pu_ 7 12 #[y_,y_,y_,y_,y_,y_,y_,y_,n_,n_,n_,n_,n_] ?_
  refine pu_ 8 13 #[y_,y_,y_,y_,y_,y_,y_,y_,y_,n_,n_,n_,n_] ?_
  refine pu_ 9 14 #[y_,y_,y_,y_,y_,y_,y_,y_,y_,y_,n_,n_,n_] ?_
  refine pu_ 10 15 #[y_,y_,y_,y_,y_,y_,y_,y_,y_,y_,y_,n_,n_] ?_
  refine pu_ 11 16 #[y_,y_,y_,y_,y_,y_,y_,y_,y_,y_,y_,y_,n_] ?_
  refine pq_ 12 17 #[y_,y_,y_,y_,y_,y_,y_,y_,y_,y_,y_,y_,y_] ?_
  refine done_ (done_of HT_.out (by kernel_rfl)) ?_
  have hnb8 := NB649_650.out
  have hnc8 := NB650_649.out
  have hnb9 := NB649_651.out
  have hnc9 := NB651_649.out
  have hcz10_0 := c0_ BK649
  have hcz10_1 := c1_ BK649
  have hfz10_0 := fz_ BK649 0
  have hfz10_1 := fz_ BK649 1
  have hnb11 := NB650_651.out
  have hnc11 := NB651_650.out
  have hcz12_0 := c0_ BK650
  have hcz12_1 := c1_ BK650
  have hfz12_0 := fz_ BK650 0
  have hfz12_1 := fz_ BK650 1
  have hcz13_0 := c0_ BK651
  have hcz13_1 := c1_ BK651
  have hfz13_0 := fz_ BK651 0
  have hfz13_1 := fz_ BK651 1
  try go_wp2
  refine bodyPost_ret (results_cell_row rfl _ _ gb651 26 #[.int .u64 (IntKind.u64.wrap (a0_0 * a1_0)), .int .u64 (IntKind.u64.wrap (a0_1 * a1_1))] (0, 0) _ rfl (by (with_reducible repeat (first | apply bN_ | apply bD_ | apply bA_)); refine blk_put (cs := #[.int .u64 (IntKind.u64.wrap (a0_0 * a1_0)), .int .u64 0]) ?_ 1 _ rfl; (with_reducible repeat (first | apply bN_ | apply bD_ | apply bA_)); refine blk_put (cs := #[.int .u64 0, .int .u64 0]) ?_ 0 _ rfl; exact bk_) Try.underlying26 rfl (by kernel_rfl)) rfl ?_
  exact ⟨by first | rfl | (exfalso; simp only [decide_eq_true_eq, decide_eq_false_iff_not] at *; omega) | (simp [errW_none, errW_some] <;> rfl) | (simp [*, errW_none, errW_some] <;> rfl), bz_⟩
 ·rw [if_neg c3] at H
  have c3b0 : (a1_1 == 0) = false := beq_eq_false_iff_ne.mpr c3
  have c3b1 : (a1_1 != 0) = true := bne_iff_ne.mpr c3
  replace H := Option.bind_eq_some_iff.mp H
  obtain ⟨⟨t652, t653⟩, A140, H⟩ := H
  replace H : (if a0_1 > (IntKind.u64.wrap (Int.tdiv t653 a1_1)) then ((lockgateref04_UAll.f).bind fun bt654 => (some (bt654.1, bt654.2))) else (some (IntKind.u64.wrap (a0_0 * a1_0), IntKind.u64.wrap (a0_1 * a1_1)))) = some (r1, r2) := H
  have A14 := Aside0.mk A140
  clear A140
  by_cases c15 : a0_1 > (IntKind.u64.wrap (Int.tdiv t653 a1_1))
  ·rw [if_pos c15] at H
   have c15b0 : decide ((IntKind.u64.wrap (Int.tdiv t653 a1_1)) < a0_1) = true := decide_eq_true c15
   clear c15
   replace H := Option.bind_eq_some_iff.mp H
   obtain ⟨⟨t654, t655⟩, A160, H⟩ := H
   replace H : (some (t654, t655)) = some (r1, r2) := H
   have A16 := Aside0.mk A160
   clear A160
   simp only [Option.some.injEq, Prod.mk.injEq] at H
   obtain ⟨rfl, rfl⟩ := H
   go_enter Try.func62, Try.ntmps62
   try go_wp2_with (first | ((with_reducible refine gate_dst (N := 2) rfl ?_); refine bx_ 2 #[.int .u64 a0_0, .int .u64 a0_1] 26 ?_; intro gb649 hg w17 BK649 hb; have GW649 := bg_ hg; have GE649 := GW649; replace HB := bl_ hb; clear hb hg) | ((with_reducible refine gate_dst (N := 3) rfl ?_); refine bx_ 3 #[.int .u64 a1_0, .int .u64 a1_1] 26 ?_; intro gb650 hg w18 BK650 hb; have GW650 := bg_ hg; have GE650 := GW650; have NB649_650 := bm_ hg BK649; have NB650_649 := bn_ hg BK649; replace BK649 := bb_ hb BK649; replace HB := bl_ hb; clear hb hg) | ((with_reducible refine gate_dst (N := 4) rfl ?_); refine bx_ 4 #[.int .u64 0, .int .u64 0] 26 ?_; intro gb651 hg w19 BK651 hb; have GW651 := bg_ hg; have GE651 := GW651; have NB649_651 := bm_ hg BK649; have NB651_649 := bn_ hg BK649; have NB650_651 := bm_ hg BK650; have NB651_650 := bn_ hg BK650; replace BK649 := bb_ hb BK649; replace BK650 := bb_ hb BK650; replace HB := bl_ hb; clear hb hg))
   (repeat (simp only [fl26_0, fl26_1]; go_wp2_with (first | ((with_reducible refine gate_dst (N := 2) rfl ?_); refine bx_ 2 #[.int .u64 a0_0, .int .u64 a0_1] 26 ?_; intro gb649 hg w17 BK649 hb; have GW649 := bg_ hg; have GE649 := GW649; replace HB := bl_ hb; clear hb hg) | ((with_reducible refine gate_dst (N := 3) rfl ?_); refine bx_ 3 #[.int .u64 a1_0, .int .u64 a1_1] 26 ?_; intro gb650 hg w18 BK650 hb; have GW650 := bg_ hg; have GE650 := GW650; have NB649_650 := bm_ hg BK649; have NB650_649 := bn_ hg BK649; replace BK649 := bb_ hb BK649; replace HB := bl_ hb; clear hb hg) | ((with_reducible refine gate_dst (N := 4) rfl ?_); refine bx_ 4 #[.int .u64 0, .int .u64 0] 26 ?_; intro gb651 hg w19 BK651 hb; have GW651 := bg_ hg; have GE651 := GW651; have NB649_651 := bm_ hg BK649; have NB651_649 := bn_ hg BK649; have NB650_651 := bm_ hg BK650; have NB651_650 := bn_ hg BK650; replace BK649 := bb_ hb BK649; replace BK650 := bb_ hb BK650; replace HB := bl_ hb; clear hb hg))))
   replace BK649 := Aside0.mk (blk_drew BK649.out)
   replace BK650 := Aside0.mk (blk_drew BK650.out)
   replace BK651 := Aside0.mk (blk_drew BK651.out)
   replace HB := Aside0.mk (below_drew1 HB.out)
   refine start_ (n := 13) (S := fun w' => w'.cell? ⟨gb650, 0, none⟩ = some (.int .u64 a1_0) ∧ w'.cell? ⟨gb650, 1, none⟩ = some (.int .u64 a1_1) ∧ w'.cell? ⟨gb649, 0, none⟩ = some (.int .u64 a0_0) ∧ w'.cell? ⟨gb649, 1, none⟩ = some (.int .u64 a0_1)) (ds := []) #[n_,n_,n_,n_,n_,n_,n_,n_,n_,n_,n_,n_,n_] (by kernel_rfl) rfl rfl ⟨c0_ BK650, c1_ BK650, c0_ BK649, c1_ BK649⟩ (fun hHeld => ?_); refine with_tabW lockgateref04_UMul.tab1 lockgateref04_UMul.bits1 (fun HT_ HW_ => ?_)
   generalize w19.drew = w20 at BK649 BK650 BK651 HB hHeld ⊢
   refine pq_ 0 5 #[y_,n_,n_,n_,n_,n_,n_,n_,n_,n_,n_,n_,n_] ?_
   refine tq1_ 1 6 #[y_,y_,n_,n_,n_,n_,n_,n_,n_,n_,n_,n_,n_] hHeld ?_
   refine pq_ 2 7 #[y_,y_,y_,n_,n_,n_,n_,n_,n_,n_,n_,n_,n_] ?_
   refine pq_ 3 8 #[y_,y_,y_,y_,n_,n_,n_,n_,n_,n_,n_,n_,n_] ?_
   refine pq_ 4 9 #[y_,y_,y_,y_,y_,n_,n_,n_,n_,n_,n_,n_,n_] ?_
   refine pq_ 8 13 #[y_,y_,y_,y_,y_,n_,n_,n_,y_,n_,n_,n_,n_] ?_
   refine tq1_ 5 10 #[y_,y_,y_,y_,y_,y_,n_,n_,y_,n_,n_,n_,n_] hHeld ?_
   refine tq1_ 9 14 #[y_,y_,y_,y_,y_,y_,n_,n_,y_,y_,n_,n_,n_] hHeld ?_
   refine one_ (i := 6) (N := some 11) #[y_,y_,y_,y_,y_,y_,y_,n_,y_,y_,n_,n_,n_] rfl rfl (one_of HT_.out (by kernel_rfl)) (by decide) (fun K hK => ?_)
   refine goes_ Try.func73 (by kernel_rfl) rfl #[] (by rfl) rfl rfl (by (try simp only [List.map_toArray, List.map_cons, List.map_nil]); first | done | rfl) ?_
   with_reducible refine (lockgateref04_UAll.calls  t652 t653 _ A14.out).mono ?_
   rintro e w21 ⟨rfl, hb⟩
   refine ⟨_, rfl, ?_⟩
   replace BK649 := bb_ hb BK649
   replace BK650 := bb_ hb BK650
   replace BK651 := bb_ hb BK651
   replace HB := bl_ hb
   try clear hb
   refine hK.out _ _ ⟨c0_ BK650, c1_ BK650, c0_ BK649, c1_ BK649⟩ (fun hHeld => ?_)
   clear hK K
   refine norm_ (a' := ?_) ?_ ?_
   rotate_left
   ·show Act.put _ (some 11) _ = _
    simp only [Act.put, s1_, s2_, s3_, i64_w, i32_w]
    rfl
   refine pq_ 7 12 #[y_,y_,y_,y_,y_,y_,y_,y_,y_,y_,n_,n_,n_] ?_
   refine pq_ 10 15 #[y_,y_,y_,y_,y_,y_,y_,y_,y_,y_,y_,n_,n_] ?_
   refine pq_ 11 16 #[y_,y_,y_,y_,y_,y_,y_,y_,y_,y_,y_,y_,n_] ?_
   refine pq_ 12 17 #[y_,y_,y_,y_,y_,y_,y_,y_,y_,y_,y_,y_,y_] ?_
   refine done_ (done_of HT_.out (by kernel_rfl)) ?_
   try go_wp2_with (first | ((with_reducible refine gate_callee (f := 73) rfl ?_); refine goesL_ (some 18) rfl rfl Try.func73 (by kernel_rfl) rfl #[] rfl (by (try simp only [List.map_toArray, List.map_cons, List.map_nil]); first | done | rfl) ?_; (with_reducible refine (lockgateref04_UAll.calls  t654 t655 _ A16.out).mono ?_); rintro e w22 ⟨rfl, hb⟩; refine ⟨_, rfl, ?_⟩; replace BK649 := bb_ hb BK649; replace BK650 := bb_ hb BK650; replace BK651 := bb_ hb BK651; replace HB := bl_ hb; (try clear hb); (try clear hb2); (try clear hk); (try clear hi); have hnb23 := NB651_649.out; have hnc23 := NB649_651.out; have hnb24 := NB651_650.out; have hnc24 := NB650_651.out; have hcz25_0 := c0_ BK651; have hcz25_1 := c1_ BK651; have hfz25_0 := fz_ BK651 0; have hfz25_1 := fz_ BK651 1))
   (repeat (simp only [fl26_0, fl26_1]; go_wp2_with (first | ((with_reducible refine gate_callee (f := 73) rfl ?_); refine goesL_ (some 18) rfl rfl Try.func73 (by kernel_rfl) rfl #[] rfl (by (try simp only [List.map_toArray, List.map_cons, List.map_nil]); first | done | rfl) ?_; (with_reducible refine (lockgateref04_UAll.calls  t654 t655 _ A16.out).mono ?_); rintro e w22 ⟨rfl, hb⟩; refine ⟨_, rfl, ?_⟩; replace BK649 := bb_ hb BK649; replace BK650 := bb_ hb BK650; replace BK651 := bb_ hb BK651; replace HB := bl_ hb; (try clear hb); (try clear hb2); (try clear hk); (try clear hi); have hnb23 := NB651_649.out; have hnc23 := NB649_651.out; have hnb24 := NB651_650.out; have hnc24 := NB650_651.out; have hcz25_0 := c0_ BK651; have hcz25_1 := c1_ BK651; have hfz25_0 := fz_ BK651 0; have hfz25_1 := fz_ BK651 1))))
   refine bodyPost_ret (results_cell_row rfl _ _ gb651 26 #[.int .u64 t654, .int .u64 t655] (0, 0) _ rfl (by (with_reducible repeat (first | apply bN_ | apply bD_ | apply bA_)); refine blk_put (cs := #[.int .u64 t654, .int .u64 0]) ?_ 1 _ rfl; (with_reducible repeat (first | apply bN_ | apply bD_ | apply bA_)); refine blk_put (cs := #[.int .u64 0, .int .u64 0]) ?_ 0 _ rfl; exact bk_) Try.underlying26 rfl (by kernel_rfl)) rfl ?_
   exact ⟨by first | rfl | (exfalso; simp only [decide_eq_true_eq, decide_eq_false_iff_not] at *; omega) | (simp [errW_none, errW_some] <;> rfl) | (simp [*, errW_none, errW_some] <;> rfl), bz_⟩
  ·rw [if_neg c15] at H
   have c15b0 : decide ((IntKind.u64.wrap (Int.tdiv t653 a1_1)) < a0_1) = false := decide_eq_false c15
   clear c15
   simp only [Option.some.injEq, Prod.mk.injEq] at H
   obtain ⟨rfl, rfl⟩ := H
   go_enter Try.func62, Try.ntmps62
   try go_wp2_with (first | ((with_reducible refine gate_dst (N := 2) rfl ?_); refine bx_ 2 #[.int .u64 a0_0, .int .u64 a0_1] 26 ?_; intro gb649 hg w26 BK649 hb; have GW649 := bg_ hg; have GE649 := GW649; replace HB := bl_ hb; clear hb hg) | ((with_reducible refine gate_dst (N := 3) rfl ?_); refine bx_ 3 #[.int .u64 a1_0, .int .u64 a1_1] 26 ?_; intro gb650 hg w27 BK650 hb; have GW650 := bg_ hg; have GE650 := GW650; have NB649_650 := bm_ hg BK649; have NB650_649 := bn_ hg BK649; replace BK649 := bb_ hb BK649; replace HB := bl_ hb; clear hb hg) | ((with_reducible refine gate_dst (N := 4) rfl ?_); refine bx_ 4 #[.int .u64 0, .int .u64 0] 26 ?_; intro gb651 hg w28 BK651 hb; have GW651 := bg_ hg; have GE651 := GW651; have NB649_651 := bm_ hg BK649; have NB651_649 := bn_ hg BK649; have NB650_651 := bm_ hg BK650; have NB651_650 := bn_ hg BK650; replace BK649 := bb_ hb BK649; replace BK650 := bb_ hb BK650; replace HB := bl_ hb; clear hb hg))
   (repeat (simp only [fl26_0, fl26_1]; go_wp2_with (first | ((with_reducible refine gate_dst (N := 2) rfl ?_); refine bx_ 2 #[.int .u64 a0_0, .int .u64 a0_1] 26 ?_; intro gb649 hg w26 BK649 hb; have GW649 := bg_ hg; have GE649 := GW649; replace HB := bl_ hb; clear hb hg) | ((with_reducible refine gate_dst (N := 3) rfl ?_); refine bx_ 3 #[.int .u64 a1_0, .int .u64 a1_1] 26 ?_; intro gb650 hg w27 BK650 hb; have GW650 := bg_ hg; have GE650 := GW650; have NB649_650 := bm_ hg BK649; have NB650_649 := bn_ hg BK649; replace BK649 := bb_ hb BK649; replace HB := bl_ hb; clear hb hg) | ((with_reducible refine gate_dst (N := 4) rfl ?_); refine bx_ 4 #[.int .u64 0, .int .u64 0] 26 ?_; intro gb651 hg w28 BK651 hb; have GW651 := bg_ hg; have GE651 := GW651; have NB649_651 := bm_ hg BK649; have NB651_649 := bn_ hg BK649; have NB650_651 := bm_ hg BK650; have NB651_650 := bn_ hg BK650; replace BK649 := bb_ hb BK649; replace BK650 := bb_ hb BK650; replace HB := bl_ hb; clear hb hg))))
   replace BK649 := Aside0.mk (blk_drew BK649.out)
   replace BK650 := Aside0.mk (blk_drew BK650.out)
   replace BK651 := Aside0.mk (blk_drew BK651.out)
   replace HB := Aside0.mk (below_drew1 HB.out)
   refine start_ (n := 13) (S := fun w' => w'.cell? ⟨gb650, 0, none⟩ = some (.int .u64 a1_0) ∧ w'.cell? ⟨gb650, 1, none⟩ = some (.int .u64 a1_1) ∧ w'.cell? ⟨gb649, 0, none⟩ = some (.int .u64 a0_0) ∧ w'.cell? ⟨gb649, 1, none⟩ = some (.int .u64 a0_1)) (ds := []) #[n_,n_,n_,n_,n_,n_,n_,n_,n_,n_,n_,n_,n_] (by kernel_rfl) rfl rfl ⟨c0_ BK650, c1_ BK650, c0_ BK649, c1_ BK649⟩ (fun hHeld => ?_); refine with_tabW lockgateref04_UMul.tab1 lockgateref04_UMul.bits1 (fun HT_ HW_ => ?_)
   generalize w28.drew = w29 at BK649 BK650 BK651 HB hHeld ⊢
   refine pq_ 0 5 #[y_,n_,n_,n_,n_,n_,n_,n_,n_,n_,n_,n_,n_] ?_
   refine tq1_ 1 6 #[y_,y_,n_,n_,n_,n_,n_,n_,n_,n_,n_,n_,n_] hHeld ?_
   refine pq_ 2 7 #[y_,y_,y_,n_,n_,n_,n_,n_,n_,n_,n_,n_,n_] ?_
   refine pq_ 3 8 #[y_,y_,y_,y_,n_,n_,n_,n_,n_,n_,n_,n_,n_] ?_
   refine pq_ 4 9 #[y_,y_,y_,y_,y_,n_,n_,n_,n_,n_,n_,n_,n_] ?_
   refine pq_ 8 13 #[y_,y_,y_,y_,y_,n_,n_,n_,y_,n_,n_,n_,n_] ?_
   refine tq1_ 5 10 #[y_,y_,y_,y_,y_,y_,n_,n_,y_,n_,n_,n_,n_] hHeld ?_
   refine tq1_ 9 14 #[y_,y_,y_,y_,y_,y_,n_,n_,y_,y_,n_,n_,n_] hHeld ?_
   refine one_ (i := 6) (N := some 11) #[y_,y_,y_,y_,y_,y_,y_,n_,y_,y_,n_,n_,n_] rfl rfl (one_of HT_.out (by kernel_rfl)) (by decide) (fun K hK => ?_)
   refine goes_ Try.func73 (by kernel_rfl) rfl #[] (by rfl) rfl rfl (by (try simp only [List.map_toArray, List.map_cons, List.map_nil]); first | done | rfl) ?_
   with_reducible refine (lockgateref04_UAll.calls  t652 t653 _ A14.out).mono ?_
   rintro e w30 ⟨rfl, hb⟩
   refine ⟨_, rfl, ?_⟩
   replace BK649 := bb_ hb BK649
   replace BK650 := bb_ hb BK650
   replace BK651 := bb_ hb BK651
   replace HB := bl_ hb
   try clear hb
   refine hK.out _ _ ⟨c0_ BK650, c1_ BK650, c0_ BK649, c1_ BK649⟩ (fun hHeld => ?_)
   clear hK K
   refine norm_ (a' := ?_) ?_ ?_
   rotate_left
   ·show Act.put _ (some 11) _ = _
    simp only [Act.put, s1_, s2_, s3_, i64_w, i32_w]
    rfl
   refine pq_ 7 12 #[y_,y_,y_,y_,y_,y_,y_,y_,y_,y_,n_,n_,n_] ?_
   refine pq_ 10 15 #[y_,y_,y_,y_,y_,y_,y_,y_,y_,y_,y_,n_,n_] ?_
   refine pq_ 11 16 #[y_,y_,y_,y_,y_,y_,y_,y_,y_,y_,y_,y_,n_] ?_
   refine pq_ 12 17 #[y_,y_,y_,y_,y_,y_,y_,y_,y_,y_,y_,y_,y_] ?_
   refine done_ (done_of HT_.out (by kernel_rfl)) ?_
   have hnb31 := NB649_650.out
   have hnc31 := NB650_649.out
   have hnb32 := NB649_651.out
   have hnc32 := NB651_649.out
   have hcz33_0 := c0_ BK649
   have hcz33_1 := c1_ BK649
   have hfz33_0 := fz_ BK649 0
   have hfz33_1 := fz_ BK649 1
   have hnb34 := NB650_651.out
   have hnc34 := NB651_650.out
   have hcz35_0 := c0_ BK650
   have hcz35_1 := c1_ BK650
   have hfz35_0 := fz_ BK650 0
   have hfz35_1 := fz_ BK650 1
   have hcz36_0 := c0_ BK651
   have hcz36_1 := c1_ BK651
   have hfz36_0 := fz_ BK651 0
   have hfz36_1 := fz_ BK651 1
   try go_wp2
   refine bodyPost_ret (results_cell_row rfl _ _ gb651 26 #[.int .u64 (IntKind.u64.wrap (a0_0 * a1_0)), .int .u64 (IntKind.u64.wrap (a0_1 * a1_1))] (0, 0) _ rfl (by (with_reducible repeat (first | apply bN_ | apply bD_ | apply bA_)); refine blk_put (cs := #[.int .u64 (IntKind.u64.wrap (a0_0 * a1_0)), .int .u64 0]) ?_ 1 _ rfl; (with_reducible repeat (first | apply bN_ | apply bD_ | apply bA_)); refine blk_put (cs := #[.int .u64 0, .int .u64 0]) ?_ 0 _ rfl; exact bk_) Try.underlying26 rfl (by kernel_rfl)) rfl ?_
   exact ⟨by first | rfl | (exfalso; simp only [decide_eq_true_eq, decide_eq_false_iff_not] at *; omega) | (simp [errW_none, errW_some] <;> rfl) | (simp [*, errW_none, errW_some] <;> rfl), bz_⟩

/-! ### lockgateref04_alone: function 92 -/
def lockgateref04_alone.f (a0_0 : Int) (a0_1 : Int) : Option (Bool) := some (a0_0 == a0_1)
set_option maxHeartbeats 8000000 in
set_option maxRecDepth 100000 in
theorem lockgateref04_alone.calls (a0_0 : Int) (a0_1 : Int) (r : Bool) (w : World) (h : lockgateref04_alone.f a0_0 a0_1 = some r) :
 Calls Try.prog 92 #[.agg #[.int .u64 a0_0, .int .u64 a0_1]] w fun e w' => e = .returned (.bool r) ∧ Below w.heap.size w w' := by
 have hu26 := Try.underlying26
 have HB := Aside0.mk (Below.refl w.heap.size w)
 have H : (some (a0_0 == a0_1)) = some r := h
 clear h
 obtain rfl := Option.some.inj H
 go_enter Try.func92, Try.ntmps92
 go_wp2_with (first | ((with_reducible refine gate_dst (N := 1) rfl ?_); refine bx_ 1 #[.int .u64 a0_0, .int .u64 a0_1] 26 ?_; intro gb656 hg w2 BK656 hb; have GW656 := bg_ hg; have GE656 := GW656; replace HB := bl_ hb; clear hb hg; have hcz3_0 := c0_ BK656; have hcz3_1 := c1_ BK656; have hfz3_0 := fz_ BK656 0; have hfz3_1 := fz_ BK656 1))
 go_ret
 exact ⟨vv_, bz_⟩

end Go.Proofs.Ytnephcecobocdaa.PA
