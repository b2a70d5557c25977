-- PRINTED by print.py (a twelfth state) out of the translation. Not trusted: Lean checks it.
import Derived.Test.YtnephcecobocdaaWTab
import Derived.Test.YtnephcecobocdaaPA0
import Derived.Test.YtnephcecobocdaaSq
import Derived.Test.YtnephcecobocdaaPA18
namespace Go.Proofs.Ytnephcecobocdaa.PA
open Go.RowKit Go.Proofs.YtnephcecobocdaaW.PrintWords Go.Proofs.YtnephcecobocdaaW.PrintLast Go.Proofs.YtnephcecobocdaaW.PrintMore
attribute [local go_sem] max2_int min2_int max_two min_two max_three min_three max_four min_four   -- for this text's walks alone
set_option linter.unusedVariables false
set_option linter.unusedSimpArgs false

/-! ### lockgateref04_UDiv: function 63 -/
def lockgateref04_UDiv.f (a0_0 : Int) (a0_1 : Int) (a1_0 : Int) (a1_1 : Int) : Option (Int × Int) := (lockgateref04_alone.f a1_0 a1_1).bind fun t660 => (if t660 = true then (if a1_0 = 0 then (some (0, a0_1)) else (some (IntKind.u64.wrap (Int.tdiv a0_0 a1_0), IntKind.u64.wrap (Int.tdiv a0_1 a1_0)))) else (some (0, a0_1)))
def lockgateref04_UDiv.T3 : Bool × List (List Nat × List Nat) := (true, [([], []), ([0], [0]), ([], []), ([2], [2]), ([1, 3], [1, 3]), ([], []), ([5], [5]), ([], []), ([7], [7]), ([6, 8], [6, 8]), ([4, 9], [4, 9]), ([10, 0, 1, 2, 3, 4, 5, 6, 7, 8, 9, 10], [10])])
def lockgateref04_UDiv.B3 : List Nat := [0, 1, 0, 4, 15, 0, 32, 0, 128, 480, 1023, 2047]
theorem lockgateref04_UDiv.tab3 : rtab .any (opsOf Try.f63 3) = lockgateref04_UDiv.T3 := by kernel_rfl
theorem lockgateref04_UDiv.bits3 : waitsOk lockgateref04_UDiv.T3.2 lockgateref04_UDiv.B3 = true := by kernel_rfl
set_option maxHeartbeats 8000000 in
set_option maxRecDepth 100000 in
theorem lockgateref04_UDiv.calls (a0_0 : Int) (a0_1 : Int) (a1_0 : Int) (a1_1 : Int) (r1 : Int) (r2 : Int) (w : World) (h : lockgateref04_UDiv.f a0_0 a0_1 a1_0 a1_1 = some (r1, r2)) :
 Calls Try.prog 63 #[.agg #[.int .u64 a0_0, .int .u64 a0_1], .agg #[.int .u64 a1_0, .int .u64 a1_1]] w fun e w' => e = .returned (.agg #[.int .u64 r1, .int .u64 r2]) ∧ Below w.heap.size w w' := by
 have hu26 := Try.underlying26
 have HB := Aside0.mk (Below.refl w.heap.size w)
 have H : ((lockgateref04_alone.f a1_0 a1_1).bind fun t660 => (if t660 = true then (if a1_0 = 0 then (some (0, a0_1)) else (some (IntKind.u64.wrap (Int.tdiv a0_0 a1_0), IntKind.u64.wrap (Int.tdiv a0_1 a1_0)))) else (some (0, a0_1)))) = some (r1, r2) := h
 clear h
 replace H := Option.bind_eq_some_iff.mp H
 obtain ⟨t660, A30, H⟩ := H
 replace H : (if t660 = true then (if a1_0 = 0 then (some (0, a0_1)) else (some (IntKind.u64.wrap (Int.tdiv a0_0 a1_0), IntKind.u64.wrap (Int.tdiv a0_1 a1_0)))) else (some (0, a0_1))) = some (r1, r2) := H
 have A3 := Aside0.mk A30
 clear A30
 by_cases c4 : t660 = true
 ·subst c4
  have H1 : (if a1_0 = 0 then (some (0, a0_1)) else (some (IntKind.u64.wrap (Int.tdiv a0_0 a1_0), IntKind.u64.wrap (Int.tdiv a0_1 a1_0)))) = some (r1, r2) := by rw [if_pos rfl] at H; exact H
  clear H
  have H := H1
  clear H1
  by_cases c5 : a1_0 = 0
  ·rw [if_pos c5] at H
   have c5b0 : (a1_0 == 0) = true := beq_iff_eq.mpr c5
   have c5b1 : (a1_0 != 0) = false := bne_eq_false_iff_eq.mpr c5
   clear c5
   simp only [Option.some.injEq, Prod.mk.injEq] at H
   obtain ⟨rfl, rfl⟩ := H
   go_enter Try.func63, Try.ntmps63
   go_wp2_with (first | ((with_reducible refine gate_dst (N := 2) rfl ?_); refine bx_ 2 #[.int .u64 a0_0, .int .u64 a0_1] 26 ?_; intro gb657 hg w6 BK657 hb; have GW657 := bg_ hg; have GE657 := GW657; replace HB := bl_ hb; clear hb hg) | ((with_reducible refine gate_dst (N := 3) rfl ?_); refine bx_ 3 #[.int .u64 a1_0, .int .u64 a1_1] 26 ?_; intro gb658 hg w7 BK658 hb; have GW658 := bg_ hg; have GE658 := GW658; have NB657_658 := bm_ hg BK657; have NB658_657 := bn_ hg BK657; replace BK657 := bb_ hb BK657; replace HB := bl_ hb; clear hb hg) | ((with_reducible refine gate_dst (N := 4) rfl ?_); refine bx_ 4 #[.int .u64 0, .int .u64 0] 26 ?_; intro gb659 hg w8 BK659 hb; have GW659 := bg_ hg; have GE659 := GW659; have NB657_659 := bm_ hg BK657; have NB659_657 := bn_ hg BK657; have NB658_659 := bm_ hg BK658; have NB659_658 := bn_ hg BK658; replace BK657 := bb_ hb BK657; replace BK658 := bb_ hb BK658; replace HB := bl_ hb; clear hb hg; have hnb9 := NB658_657.out; have hnc9 := NB657_658.out; have hnb10 := NB658_659.out; have hnc10 := NB659_658.out; have hcz11_0 := c0_ BK658; have hcz11_1 := c1_ BK658; have hfz11_0 := fz_ BK658 0; have hfz11_1 := fz_ BK658 1) | ((with_reducible refine gate_callee (f := 92) rfl ?_); refine goesL_ (some 6) rfl rfl Try.func92 (by kernel_rfl) rfl #[.agg #[.int .u64 a1_0, .int .u64 a1_1]] rfl (by (try simp only [List.map_toArray, List.map_cons, List.map_nil]); first | done | rfl) ?_; (with_reducible refine (lockgateref04_alone.calls a1_0 a1_1 true _ A3.out).mono ?_); rintro e w12 ⟨rfl, hb⟩; refine ⟨_, rfl, ?_⟩; replace BK657 := bb_ hb BK657; replace BK658 := bb_ hb BK658; replace BK659 := bb_ hb BK659; replace HB := bl_ hb; (try clear hb); (try clear hb2); (try clear hk); (try clear hi); have hcz13_0 := c0_ BK658; have hcz13_1 := c1_ BK658; have hfz13_0 := fz_ BK658 0; have hfz13_1 := fz_ BK658 1; have hnb14 := NB657_659.out; have hnc14 := NB659_657.out; have hcz15_0 := c0_ BK657; have hcz15_1 := c1_ BK657; have hfz15_0 := fz_ BK657 0; have hfz15_1 := fz_ BK657 1; have hcz16_0 := c0_ BK659; have hcz16_1 := c1_ BK659; have hfz16_0 := fz_ BK659 0; have hfz16_1 := fz_ BK659 1))
   refine bodyPost_ret (results_cell_row rfl _ _ gb659 26 #[.int .u64 0, .int .u64 a0_1] (0, 0) _ rfl (by (with_reducible repeat (first | apply bN_ | apply bD_ | apply bA_)); refine blk_put (cs := #[.int .u64 0, .int .u64 0]) ?_ 1 _ rfl; (with_reducible repeat (first | apply bN_ | apply bD_ | apply bA_)); refine blk_put (cs := #[.int .u64 0, .int .u64 0]) ?_ 0 _ rfl; exact bk_) Try.underlying26 rfl (by kernel_rfl)) rfl ?_
   exact ⟨vv_, bz_⟩
  ·rw [if_neg c5] at H
   have c5b0 : (a1_0 == 0) = false := beq_eq_false_iff_ne.mpr c5
   have c5b1 : (a1_0 != 0) = true := bne_iff_ne.mpr c5
   simp only [Option.some.injEq, Prod.mk.injEq] at H
   obtain ⟨rfl, rfl⟩ := H
   go_enter Try.func63, Try.ntmps63
   try go_wp2_with (first | ((with_reducible refine gate_dst (N := 2) rfl ?_); refine bx_ 2 #[.int .u64 a0_0, .int .u64 a0_1] 26 ?_; intro gb657 hg w17 BK657 hb; have GW657 := bg_ hg; have GE657 := GW657; replace HB := bl_ hb; clear hb hg) | ((with_reducible refine gate_dst (N := 3) rfl ?_); refine bx_ 3 #[.int .u64 a1_0, .int .u64 a1_1] 26 ?_; intro gb658 hg w18 BK658 hb; have GW658 := bg_ hg; have GE658 := GW658; have NB657_658 := bm_ hg BK657; have NB658_657 := bn_ hg BK657; replace BK657 := bb_ hb BK657; replace HB := bl_ hb; clear hb hg) | ((with_reducible refine gate_dst (N := 4) rfl ?_); refine bx_ 4 #[.int .u64 0, .int .u64 0] 26 ?_; intro gb659 hg w19 BK659 hb; have GW659 := bg_ hg; have GE659 := GW659; have NB657_659 := bm_ hg BK657; have NB659_657 := bn_ hg BK657; have NB658_659 := bm_ hg BK658; have NB659_658 := bn_ hg BK658; replace BK657 := bb_ hb BK657; replace BK658 := bb_ hb BK658; replace HB := bl_ hb; clear hb hg; have hnb20 := NB658_657.out; have hnc20 := NB657_658.out; have hnb21 := NB658_659.out; have hnc21 := NB659_658.out; have hcz22_0 := c0_ BK658; have hcz22_1 := c1_ BK658; have hfz22_0 := fz_ BK658 0; have hfz22_1 := fz_ BK658 1) | ((with_reducible refine gate_callee (f := 92) rfl ?_); refine goesL_ (some 6) rfl rfl Try.func92 (by kernel_rfl) rfl #[.agg #[.int .u64 a1_0, .int .u64 a1_1]] rfl (by (try simp only [List.map_toArray, List.map_cons, List.map_nil]); first | done | rfl) ?_; (with_reducible refine (lockgateref04_alone.calls a1_0 a1_1 true _ A3.out).mono ?_); rintro e w23 ⟨rfl, hb⟩; refine ⟨_, rfl, ?_⟩; replace BK657 := bb_ hb BK657; replace BK658 := bb_ hb BK658; replace BK659 := bb_ hb BK659; replace HB := bl_ hb; (try clear hb); (try clear hb2); (try clear hk); (try clear hi); have hcz24_0 := c0_ BK658; have hcz24_1 := c1_ BK658; have hfz24_0 := fz_ BK658 0; have hfz24_1 := fz_ BK658 1))
   replace BK657 := Aside0.mk (blk_drew BK657.out)
   replace BK658 := Aside0.mk (blk_drew BK658.out)
   replace BK659 := Aside0.mk (blk_drew BK659.out)
   replace HB := Aside0.mk (below_drew1 HB.out)
   refine start_ (n := 12) (S := fun w' => w'.cell? ⟨gb657, 0, none⟩ = some (.int .u64 a0_0) ∧ w'.cell? ⟨gb657, 1, none⟩ = some (.int .u64 a0_1) ∧ w'.cell? ⟨gb658, 0, none⟩ = some (.int .u64 a1_0) ∧ w'.cell? ⟨gb658, 1, none⟩ = some (.int .u64 a1_1)) (ds := []) #[n_,n_,n_,n_,n_,n_,n_,n_,n_,n_,n_,n_] (by kernel_rfl) rfl rfl ⟨c0_ BK657, c1_ BK657, c0_ BK658, c1_ BK658⟩ (fun hHeld => ?_); refine with_tabW lockgateref04_UDiv.tab3 lockgateref04_UDiv.bits3 (fun HT_ HW_ => ?_)
   generalize w23.drew = w25 at BK657 BK658 BK659 HB hHeld ⊢
   refine pq_ 0 16 #[y_,n_,n_,n_,n_,n_,n_,n_,n_,n_,n_,n_] ?_
   refine pq_ 2 18 #[y_,n_,y_,n_,n_,n_,n_,n_,n_,n_,n_,n_] ?_
   refine pq_ 5 21 #[y_,n_,y_,n_,n_,y_,n_,n_,n_,n_,n_,n_] ?_
   refine pq_ 7 23 #[y_,n_,y_,n_,n_,y_,n_,y_,n_,n_,n_,n_] ?_
   refine tq1_ 1 17 #[y_,y_,y_,n_,n_,y_,n_,y_,n_,n_,n_,n_] hHeld ?_
   refine tq1_ 3 19 #[y_,y_,y_,y_,n_,y_,n_,y_,n_,n_,n_,n_] hHeld ?_
   refine pq_ 4 20 #[y_,y_,y_,y_,y_,y_,n_,y_,n_,n_,n_,n_] ?_
   refine tq1_ 6 22 #[y_,y_,y_,y_,y_,y_,y_,y_,n_,n_,n_,n_] hHeld ?_
   refine tq1_ 8 24 #[y_,y_,y_,y_,y_,y_,y_,y_,y_,n_,n_,n_] hHeld ?_
   refine pq_ 9 25 #[y_,y_,y_,y_,y_,y_,y_,y_,y_,y_,n_,n_] ?_
   refine pq_ 10 26 #[y_,y_,y_,y_,y_,y_,y_,y_,y_,y_,y_,n_] ?_
   refine one_ (i := 11) (N := none) #[y_,y_,y_,y_,y_,y_,y_,y_,y_,y_,y_,y_] rfl rfl (one_of HT_.out (by kernel_rfl)) (by decide) (fun K hK => ?_)
   have hs26 := c0_ BK659
   have hfs26 := fz_ BK659 0
   have hns26_0 := NB657_659.out
   have hns26_1 := NB658_659.out
   have hms26_0 := NB659_657.out
   have hms26_1 := NB659_658.out
   have hs27 := c1_ BK659
   have hfs27 := fz_ BK659 1
   have hns27_0 := NB657_659.out
   have hns27_1 := NB658_659.out
   have hms27_0 := NB659_657.out
   have hms27_1 := NB659_658.out
   refine skip_ (w1 := ?_) (by rfl) rfl ?_ ?_
   rotate_left
   ·go_simp
    rfl
   refine hK.out _ _ ⟨((cell_far (p := ⟨gb659, _, none⟩) NB657_659.out _).trans (((cell_far (p := ⟨gb659, _, none⟩) NB657_659.out _).trans (hHeld.1)))), ((cell_far (p := ⟨gb659, _, none⟩) NB657_659.out _).trans (((cell_far (p := ⟨gb659, _, none⟩) NB657_659.out _).trans (hHeld.2.1)))), ((cell_far (p := ⟨gb659, _, none⟩) NB658_659.out _).trans (((cell_far (p := ⟨gb659, _, none⟩) NB658_659.out _).trans (hHeld.2.2.1)))), ((cell_far (p := ⟨gb659, _, none⟩) NB658_659.out _).trans (((cell_far (p := ⟨gb659, _, none⟩) NB658_659.out _).trans (hHeld.2.2.2))))⟩ (fun hHeld => ?_)
   clear hK K
   refine done_ (done_of HT_.out (by kernel_rfl)) ?_
   try go_wp2
   refine bodyPost_ret (results_cell_row rfl _ _ gb659 26 #[.int .u64 (IntKind.u64.wrap (Int.tdiv a0_0 a1_0)), .int .u64 (IntKind.u64.wrap (Int.tdiv a0_1 a1_0))] (0, 0) _ rfl (by (with_reducible repeat (first | apply bN_ | apply bD_ | apply bA_)); refine blk_put (cs := #[.int .u64 (IntKind.u64.wrap (Int.tdiv a0_0 a1_0)), .int .u64 0]) ?_ 1 _ rfl; (with_reducible repeat (first | apply bN_ | apply bD_ | apply bA_)); refine blk_put (cs := #[.int .u64 0, .int .u64 0]) ?_ 0 _ rfl; exact bk_) Try.underlying26 rfl (by kernel_rfl)) rfl ?_
   exact ⟨vv_, bz_⟩
 ·replace c4 := Bool.eq_false_iff.mpr c4
  subst c4
  have H1 : (some (0, a0_1)) = some (r1, r2) := by rw [if_neg (show ¬ (false = true) by decide)] at H; exact H
  clear H
  have H := H1
  clear H1
  simp only [Option.some.injEq, Prod.mk.injEq] at H
  obtain ⟨rfl, rfl⟩ := H
  go_enter Try.func63, Try.ntmps63
  go_wp2_with (first | ((with_reducible refine gate_dst (N := 2) rfl ?_); refine bx_ 2 #[.int .u64 a0_0, .int .u64 a0_1] 26 ?_; intro gb657 hg w28 BK657 hb; have GW657 := bg_ hg; have GE657 := GW657; replace HB := bl_ hb; clear hb hg) | ((with_reducible refine gate_dst (N := 3) rfl ?_); refine bx_ 3 #[.int .u64 a1_0, .int .u64 a1_1] 26 ?_; intro gb658 hg w29 BK658 hb; have GW658 := bg_ hg; have GE658 := GW658; have NB657_658 := bm_ hg BK657; have NB658_657 := bn_ hg BK657; replace BK657 := bb_ hb BK657; replace HB := bl_ hb; clear hb hg) | ((with_reducible refine gate_dst (N := 4) rfl ?_); refine bx_ 4 #[.int .u64 0, .int .u64 0] 26 ?_; intro gb659 hg w30 BK659 hb; have GW659 := bg_ hg; have GE659 := GW659; have NB657_659 := bm_ hg BK657; have NB659_657 := bn_ hg BK657; have NB658_659 := bm_ hg BK658; have NB659_658 := bn_ hg BK658; replace BK657 := bb_ hb BK657; replace BK658 := bb_ hb BK658; replace HB := bl_ hb; clear hb hg; have hnb31 := NB658_657.out; have hnc31 := NB657_658.out; have hnb32 := NB658_659.out; have hnc32 := NB659_658.out; have hcz33_0 := c0_ BK658; have hcz33_1 := c1_ BK658; have hfz33_0 := fz_ BK658 0; have hfz33_1 := fz_ BK658 1) | ((with_reducible refine gate_callee (f := 92) rfl ?_); refine goesL_ (some 6) rfl rfl Try.func92 (by kernel_rfl) rfl #[.agg #[.int .u64 a1_0, .int .u64 a1_1]] rfl (by (try simp only [List.map_toArray, List.map_cons, List.map_nil]); first | done | rfl) ?_; (with_reducible refine (lockgateref04_alone.calls a1_0 a1_1 false _ A3.out).mono ?_); rintro e w34 ⟨rfl, hb⟩; refine ⟨_, rfl, ?_⟩; replace BK657 := bb_ hb BK657; replace BK658 := bb_ hb BK658; replace BK659 := bb_ hb BK659; replace HB := bl_ hb; (try clear hb); (try clear hb2); (try clear hk); (try clear hi); have hnb35 := NB657_659.out; have hnc35 := NB659_657.out; have hcz36_0 := c0_ BK657; have hcz36_1 := c1_ BK657; have hfz36_0 := fz_ BK657 0; have hfz36_1 := fz_ BK657 1; have hcz37_0 := c0_ BK659; have hcz37_1 := c1_ BK659; have hfz37_0 := fz_ BK659 0; have hfz37_1 := fz_ BK659 1))
  refine bodyPost_ret (results_cell_row rfl _ _ gb659 26 #[.int .u64 0, .int .u64 a0_1] (0, 0) _ rfl (by (with_reducible repeat (first | apply bN_ | apply bD_ | apply bA_)); refine blk_put (cs := #[.int .u64 0, .int .u64 0]) ?_ 1 _ rfl; (with_reducible repeat (first | apply bN_ | apply bD_ | apply bA_)); refine blk_put (cs := #[.int .u64 0, .int .u64 0]) ?_ 0 _ rfl; exact bk_) Try.underlying26 rfl (by kernel_rfl)) rfl ?_
  exact ⟨vv_, bz_⟩

/-! ### lockgateref04_UOf: function 74 -/
def lockgateref04_UOf.f (a0 : Int) : Option (Int × Int) := some (a0, a0)
set_option maxHeartbeats 8000000 in
set_option maxRecDepth 100000 in
theorem lockgateref04_UOf.calls (a0 : Int) (r1 : Int) (r2 : Int) (w : World) (h : lockgateref04_UOf.f a0 = some (r1, r2)) :
 Calls Try.prog 74 #[.int .u64 a0] w fun e w' => e = .returned (.agg #[.int .u64 r1, .int .u64 r2]) ∧ Below w.heap.size w w' := by
 have hu26 := Try.underlying26
 have HB := Aside0.mk (Below.refl w.heap.size w)
 have H : (some (a0, a0)) = some (r1, r2) := h
 clear h
 simp only [Option.some.injEq, Prod.mk.injEq] at H
 obtain ⟨rfl, rfl⟩ := H
 go_enter Try.func74, Try.ntmps74
 go_wp2_with (first | ((with_reducible refine gate_dst (N := 2) rfl ?_); refine bx_ 2 #[.int .u64 0, .int .u64 0] 26 ?_; intro gb661 hg w2 BK661 hb; have GW661 := bg_ hg; have GE661 := GW661; replace HB := bl_ hb; clear hb hg; have hcz3_0 := c0_ BK661; have hcz3_1 := c1_ BK661; have hfz3_0 := fz_ BK661 0; have hfz3_1 := fz_ BK661 1))
 refine bodyPost_ret (results_cell_row rfl _ _ gb661 26 #[.int .u64 a0, .int .u64 a0] (0, 0) _ rfl (by (with_reducible repeat (first | apply bN_ | apply bD_ | apply bA_)); refine blk_put (cs := #[.int .u64 a0, .int .u64 0]) ?_ 1 _ rfl; (with_reducible repeat (first | apply bN_ | apply bD_ | apply bA_)); refine blk_put (cs := #[.int .u64 0, .int .u64 0]) ?_ 0 _ rfl; exact bk_) Try.underlying26 rfl (by kernel_rfl)) rfl ?_
 exact ⟨vv_, bz_⟩

end Go.Proofs.Ytnephcecobocdaa.PA
