-- PRINTED by print.py (a twelfth state) out of the translation. Not trusted: Lean checks it.
import Derived.Test.YtnephcecobocdaaWTab
import Derived.Test.YtnephcecobocdaaPA0
import Derived.Test.YtnephcecobocdaaSq
namespace Go.Proofs.Ytnephcecobocdaa.PA
open Go.RowKit Go.Proofs.YtnephcecobocdaaW.PrintWords Go.Proofs.YtnephcecobocdaaW.PrintLast Go.Proofs.YtnephcecobocdaaW.PrintMore
attribute [local go_sem] max2_int min2_int max_two min_two max_three min_three max_four min_four   -- for this text's walks alone
set_option linter.unusedVariables false
set_option linter.unusedSimpArgs false

/-! ### span_FromT: function 12 -/
def span_FromT.f (a0_0 : Int) (a0_1 : Int) : Option (Int × Int × Int × Int) := if (Go.bits .and .u64 a0_1 9223372036854775808) = 0 then (some (a0_0, Go.bits .or .u64 a0_0 a0_1, wrap64 (a0_0), wrap64 (Go.bits .or .u64 a0_0 a0_1))) else (some (a0_0, Go.bits .or .u64 a0_0 a0_1, wrap64 (Go.bits .or .u64 a0_0 9223372036854775808), wrap64 (Go.bits .or .u64 a0_0 (Go.bits .andNot .u64 a0_1 9223372036854775808))))
def span_FromT.T3 : Bool × List (List Nat × List Nat) := (true, [([], []), ([], []), ([1], [1]), ([2], [2]), ([], []), ([4], [4]), ([5], [5]), ([3, 6], [3, 6]), ([0, 0], [0]), ([7, 8, 0, 1, 2, 3, 4, 5, 6, 7, 8], [7])])
def span_FromT.B3 : List Nat := [0, 0, 2, 6, 0, 16, 48, 126, 1, 511]
theorem span_FromT.tab3 : rtab .any (opsOf Try.f12 3) = span_FromT.T3 := by kernel_rfl
theorem span_FromT.bits3 : waitsOk span_FromT.T3.2 span_FromT.B3 = true := by kernel_rfl
def span_FromT.T4 : Bool × List (List Nat × List Nat) := (true, [([], []), ([], []), ([1], [1]), ([2], [2]), ([3], [3]), ([], []), ([5], [5]), ([], []), ([7], [7]), ([8], [8]), ([6, 9], [6, 9]), ([10], [10]), ([4, 11], [4, 11]), ([0, 0], [0]), ([12, 13, 0, 1, 2, 3, 4, 5, 6, 7, 8, 9, 10, 11, 12, 13], [12])])
def span_FromT.B4 : List Nat := [0, 0, 2, 6, 14, 0, 32, 0, 128, 384, 992, 2016, 4094, 1, 16383]
theorem span_FromT.tab4 : rtab .any (opsOf Try.f12 4) = span_FromT.T4 := by kernel_rfl
theorem span_FromT.bits4 : waitsOk span_FromT.T4.2 span_FromT.B4 = true := by kernel_rfl
set_option maxHeartbeats 8000000 in
set_option maxRecDepth 100000 in
theorem span_FromT.calls (a0_0 : Int) (a0_1 : Int) (r1 : Int) (r2 : Int) (r3 : Int) (r4 : Int) (w : World) (h : span_FromT.f a0_0 a0_1 = some (r1, r2, r3, r4)) :
 Calls Try.prog 12 #[.agg #[.int .u64 a0_0, .int .u64 a0_1]] w fun e w' => e = .returned (.tuple #[.agg #[.int .u64 r1, .int .u64 r2], .agg #[.int .i64 r3, .int .i64 r4]]) ∧ Below w.heap.size w w' := by
 have hu24 := Try.underlying24
 have hu26 := Try.underlying26
 have hu28 := Try.underlying28
 have HB := Aside0.mk (Below.refl w.heap.size w)
 have H : (if (Go.bits .and .u64 a0_1 9223372036854775808) = 0 then (some (a0_0, Go.bits .or .u64 a0_0 a0_1, wrap64 (a0_0), wrap64 (Go.bits .or .u64 a0_0 a0_1))) else (some (a0_0, Go.bits .or .u64 a0_0 a0_1, wrap64 (Go.bits .or .u64 a0_0 9223372036854775808), wrap64 (Go.bits .or .u64 a0_0 (Go.bits .andNot .u64 a0_1 9223372036854775808))))) = some (r1, r2, r3, r4) := h
 clear h
 by_cases c2 : (Go.bits .and .u64 a0_1 9223372036854775808) = 0
 ·rw [if_pos c2] at H
  have c2b0 : ((Go.bits .and .u64 a0_1 9223372036854775808) == 0) = true := beq_iff_eq.mpr c2
  have c2b1 : ((Go.bits .and .u64 a0_1 9223372036854775808) != 0) = false := bne_eq_false_iff_eq.mpr c2
  clear c2
  simp only [Option.some.injEq, Prod.mk.injEq] at H
  obtain ⟨rfl, rfl, rfl, rfl⟩ := H
  go_enter Try.func12, Try.ntmps12
  try go_wp2_with (first | ((with_reducible refine gate_dst (N := 1) rfl ?_); refine bx_ 1 #[.int .u64 a0_0, .int .u64 a0_1] 24 ?_; intro gb101 hg w3 BK101 hb; have GW101 := bg_ hg; have GE101 := GW101; replace HB := bl_ hb; clear hb hg) | ((with_reducible refine gate_dst (N := 2) rfl ?_); refine bx_ 2 #[.int .u64 0, .int .u64 0] 26 ?_; intro gb102 hg w4 BK102 hb; have GW102 := bg_ hg; have GE102 := GW102; have NB101_102 := bm_ hg BK101; have NB102_101 := bn_ hg BK101; replace BK101 := bb_ hb BK101; replace HB := bl_ hb; clear hb hg) | ((with_reducible refine gate_dst (N := 3) rfl ?_); refine bx_ 3 #[.int .i64 0, .int .i64 0] 28 ?_; intro gb103 hg w5 BK103 hb; have GW103 := bg_ hg; have GE103 := GW103; have NB101_103 := bm_ hg BK101; have NB103_101 := bn_ hg BK101; have NB102_103 := bm_ hg BK102; have NB103_102 := bn_ hg BK102; replace BK101 := bb_ hb BK101; replace BK102 := bb_ hb BK102; replace HB := bl_ hb; clear hb hg; have hnb6 := NB101_102.out; have hnc6 := NB102_101.out; have hnb7 := NB101_103.out; have hnc7 := NB103_101.out; have hcz8_0 := c0_ BK101; have hcz8_1 := c1_ BK101; have hfz8_0 := fz_ BK101 0; have hfz8_1 := fz_ BK101 1) | ((with_reducible refine gate_dst (N := 4) rfl ?_); refine bx_ 4 #[.int .u64 0, .int .u64 0] 26 ?_; intro gb104 hg w9 BK104 hb; have GW104 := bg_ hg; have GE104 := GW104; have NB101_104 := bm_ hg BK101; have NB104_101 := bn_ hg BK101; have NB102_104 := bm_ hg BK102; have NB104_102 := bn_ hg BK102; have NB103_104 := bm_ hg BK103; have NB104_103 := bn_ hg BK103; replace BK101 := bb_ hb BK101; replace BK102 := bb_ hb BK102; replace BK103 := bb_ hb BK103; replace HB := bl_ hb; clear hb hg; have hnb10 := NB104_101.out; have hnc10 := NB101_104.out; have hnb11 := NB104_102.out; have hnc11 := NB102_104.out; have hnb12 := NB104_103.out; have hnc12 := NB103_104.out; have hcz13_0 := c0_ BK104; have hcz13_1 := c1_ BK104; have hfz13_0 := fz_ BK104 0; have hfz13_1 := fz_ BK104 1; have hcz14_0 := c0_ BK101; have hcz14_1 := c1_ BK101; have hfz14_0 := fz_ BK101 0; have hfz14_1 := fz_ BK101 1))
  have n0_ : Aside0 (((w9.setCell ⟨gb104, 0, none⟩ (.int .u64 a0_0)).setCell ⟨gb104, 1, none⟩ (.int .u64 (Go.bits .or .u64 a0_0 a0_1))).heap[gb101]? = some (.cells #[.int .u64 a0_0, .int .u64 a0_1] 24 (0, 0))) := ⟨by (with_reducible repeat (first | apply bN_ | apply bD_ | apply bA_)); refine blk_far ?_ NB101_104.out _; (with_reducible repeat (first | apply bN_ | apply bD_ | apply bA_)); refine blk_far ?_ NB101_104.out _; exact bk_⟩
  have n1_ : Aside0 (((w9.setCell ⟨gb104, 0, none⟩ (.int .u64 a0_0)).setCell ⟨gb104, 1, none⟩ (.int .u64 (Go.bits .or .u64 a0_0 a0_1))).heap[gb102]? = some (.cells #[.int .u64 0, .int .u64 0] 26 (0, 0))) := ⟨by (with_reducible repeat (first | apply bN_ | apply bD_ | apply bA_)); refine blk_far ?_ NB102_104.out _; (with_reducible repeat (first | apply bN_ | apply bD_ | apply bA_)); refine blk_far ?_ NB102_104.out _; exact bk_⟩
  have n2_ : Aside0 (((w9.setCell ⟨gb104, 0, none⟩ (.int .u64 a0_0)).setCell ⟨gb104, 1, none⟩ (.int .u64 (Go.bits .or .u64 a0_0 a0_1))).heap[gb103]? = some (.cells #[.int .i64 0, .int .i64 0] 28 (0, 0))) := ⟨by (with_reducible repeat (first | apply bN_ | apply bD_ | apply bA_)); refine blk_far ?_ NB103_104.out _; (with_reducible repeat (first | apply bN_ | apply bD_ | apply bA_)); refine blk_far ?_ NB103_104.out _; exact bk_⟩
  have n3_ : Aside0 (((w9.setCell ⟨gb104, 0, none⟩ (.int .u64 a0_0)).setCell ⟨gb104, 1, none⟩ (.int .u64 (Go.bits .or .u64 a0_0 a0_1))).heap[gb104]? = some (.cells #[.int .u64 a0_0, .int .u64 (Go.bits .or .u64 a0_0 a0_1)] 26 (0, 0))) := ⟨by (with_reducible repeat (first | apply bN_ | apply bD_ | apply bA_)); refine blk_put (cs := #[.int .u64 a0_0, .int .u64 0]) ?_ 1 _ rfl; (with_reducible repeat (first | apply bN_ | apply bD_ | apply bA_)); refine blk_put (cs := #[.int .u64 0, .int .u64 0]) ?_ 0 _ rfl; exact bk_⟩
  have n4_ : Aside0 (Below w.heap.size w ((w9.setCell ⟨gb104, 0, none⟩ (.int .u64 a0_0)).setCell ⟨gb104, 1, none⟩ (.int .u64 (Go.bits .or .u64 a0_0 a0_1)))) := ⟨by repeat (first | (with_reducible first | exact HB.out | apply lA_ | apply lN_ | apply lD_ | refine lS_ ?_ GE101.out | refine lS_ ?_ GE102.out | refine lS_ ?_ GE103.out | refine lS_ ?_ GE104.out) | exact HB.out)⟩
  (try clear BK101)
  (try clear BK102)
  (try clear BK103)
  (try clear BK104)
  (try clear HB)
  generalize ((w9.setCell ⟨gb104, 0, none⟩ (.int .u64 a0_0)).setCell ⟨gb104, 1, none⟩ (.int .u64 (Go.bits .or .u64 a0_0 a0_1))) = w15 at n0_ n1_ n2_ n3_ n4_ ⊢
  have BK101 := n0_
  have BK102 := n1_
  have BK103 := n2_
  have BK104 := n3_
  have HB := n4_
  clear n0_ n1_ n2_ n3_ n4_
  replace BK101 := Aside0.mk (blk_drew BK101.out)
  replace BK102 := Aside0.mk (blk_drew BK102.out)
  replace BK103 := Aside0.mk (blk_drew BK103.out)
  replace BK104 := Aside0.mk (blk_drew BK104.out)
  replace HB := Aside0.mk (below_drew1 HB.out)
  refine start_ (n := 10) (S := fun w' => w'.cell? ⟨gb104, 0, none⟩ = some (.int .u64 a0_0) ∧ w'.cell? ⟨gb104, 1, none⟩ = some (.int .u64 (Go.bits .or .u64 a0_0 a0_1))) (ds := []) #[n_,n_,n_,n_,n_,n_,n_,n_,n_,n_] (by kernel_rfl) rfl rfl ⟨c0_ BK104, c1_ BK104⟩ (fun hHeld => ?_); refine with_tabW span_FromT.tab3 span_FromT.bits3 (fun HT_ HW_ => ?_)
  generalize w15.drew = w16 at BK101 BK102 BK103 BK104 HB hHeld ⊢
  refine pq_ 1 18 #[n_,y_,n_,n_,n_,n_,n_,n_,n_,n_] ?_
  refine pq_ 4 21 #[n_,y_,n_,n_,y_,n_,n_,n_,n_,n_] ?_
  refine tq0_ 0 17 #[y_,y_,n_,n_,y_,n_,n_,n_,n_,n_] hHeld ?_
  refine tq0_ 2 19 #[y_,y_,y_,n_,y_,n_,n_,n_,n_,n_] hHeld ?_
  refine pq_ 3 20 #[y_,y_,y_,y_,y_,n_,n_,n_,n_,n_] ?_
  refine tq0_ 5 22 #[y_,y_,y_,y_,y_,y_,n_,n_,n_,n_] hHeld ?_
  refine pq_ 6 23 #[y_,y_,y_,y_,y_,y_,y_,n_,n_,n_] ?_
  refine pq_ 7 24 #[y_,y_,y_,y_,y_,y_,y_,y_,n_,n_] ?_
  refine one_ (i := 8) (N := none) #[y_,y_,y_,y_,y_,y_,y_,y_,y_,n_] rfl rfl (one_of HT_.out (by kernel_rfl)) (by decide) (fun K hK => ?_)
  have hs17 := c0_ BK102
  have hfs17 := fz_ BK102 0
  have hns17_0 := NB101_102.out
  have hns17_2 := NB103_102.out
  have hns17_3 := NB104_102.out
  have hms17_0 := NB102_101.out
  have hms17_2 := NB102_103.out
  have hms17_3 := NB102_104.out
  have hs18 := c1_ BK102
  have hfs18 := fz_ BK102 1
  have hns18_0 := NB101_102.out
  have hns18_2 := NB103_102.out
  have hns18_3 := NB104_102.out
  have hms18_0 := NB102_101.out
  have hms18_2 := NB102_103.out
  have hms18_3 := NB102_104.out
  refine skip_ (w1 := ?_) (by rfl) rfl ?_ ?_
  rotate_left
  ·go_simp
   rfl
  refine hK.out _ _ ⟨((cell_far (p := ⟨gb102, _, none⟩) NB104_102.out _).trans (((cell_far (p := ⟨gb102, _, none⟩) NB104_102.out _).trans (hHeld.1)))), ((cell_far (p := ⟨gb102, _, none⟩) NB104_102.out _).trans (((cell_far (p := ⟨gb102, _, none⟩) NB104_102.out _).trans (hHeld.2))))⟩ (fun hHeld => ?_)
  clear hK K
  refine one_ (i := 9) (N := none) #[y_,y_,y_,y_,y_,y_,y_,y_,y_,y_] rfl rfl (one_of HT_.out (by kernel_rfl)) (by decide) (fun K hK => ?_)
  have hs19 := c0_ BK103
  have hfs19 := fz_ BK103 0
  have hns19_0 := NB101_103.out
  have hns19_1 := NB102_103.out
  have hns19_3 := NB104_103.out
  have hms19_0 := NB103_101.out
  have hms19_1 := NB103_102.out
  have hms19_3 := NB103_104.out
  have hs20 := c1_ BK103
  have hfs20 := fz_ BK103 1
  have hns20_0 := NB101_103.out
  have hns20_1 := NB102_103.out
  have hns20_3 := NB104_103.out
  have hms20_0 := NB103_101.out
  have hms20_1 := NB103_102.out
  have hms20_3 := NB103_104.out
  refine skip_ (w1 := ?_) (by rfl) rfl ?_ ?_
  rotate_left
  ·go_simp
   rfl
  refine hK.out _ _ ⟨((cell_far (p := ⟨gb103, _, none⟩) NB104_103.out _).trans (((cell_far (p := ⟨gb103, _, none⟩) NB104_103.out _).trans (hHeld.1)))), ((cell_far (p := ⟨gb103, _, none⟩) NB104_103.out _).trans (((cell_far (p := ⟨gb103, _, none⟩) NB104_103.out _).trans (hHeld.2))))⟩ (fun hHeld => ?_)
  clear hK K
  refine done_ (done_of HT_.out (by kernel_rfl)) ?_
  try go_wp2
  refine bodyPost_ret (results_cc rfl _ _ gb102 gb103 26 28 #[.int .u64 a0_0, .int .u64 (Go.bits .or .u64 a0_0 a0_1)] #[.int .i64 (wrap64 (a0_0)), .int .i64 (wrap64 (Go.bits .or .u64 a0_0 a0_1))] (0, 0) (0, 0) _ _ rfl (by (with_reducible repeat (first | apply bN_ | apply bD_ | apply bA_)); refine blk_far ?_ NB102_103.out _; (with_reducible repeat (first | apply bN_ | apply bD_ | apply bA_)); refine blk_far ?_ NB102_103.out _; (with_reducible repeat (first | apply bN_ | apply bD_ | apply bA_)); refine blk_put (cs := #[.int .u64 a0_0, .int .u64 0]) ?_ 1 _ rfl; (with_reducible repeat (first | apply bN_ | apply bD_ | apply bA_)); refine blk_put (cs := #[.int .u64 0, .int .u64 0]) ?_ 0 _ rfl; exact bk_) Try.underlying26 rfl (by kernel_rfl) rfl (by (with_reducible repeat (first | apply bN_ | apply bD_ | apply bA_)); refine blk_put (cs := #[.int .i64 (wrap64 (a0_0)), .int .i64 0]) ?_ 1 _ rfl; (with_reducible repeat (first | apply bN_ | apply bD_ | apply bA_)); refine blk_put (cs := #[.int .i64 0, .int .i64 0]) ?_ 0 _ rfl; (with_reducible repeat (first | apply bN_ | apply bD_ | apply bA_)); refine blk_far ?_ NB103_102.out _; (with_reducible repeat (first | apply bN_ | apply bD_ | apply bA_)); refine blk_far ?_ NB103_102.out _; exact bk_) Try.underlying28 rfl (by kernel_rfl)) rfl ?_
  exact ⟨vv_, bz_⟩
 ·rw [if_neg c2] at H
  have c2b0 : ((Go.bits .and .u64 a0_1 9223372036854775808) == 0) = false := beq_eq_false_iff_ne.mpr c2
  have c2b1 : ((Go.bits .and .u64 a0_1 9223372036854775808) != 0) = true := bne_iff_ne.mpr c2
  simp only [Option.some.injEq, Prod.mk.injEq] at H
  obtain ⟨rfl, rfl, rfl, rfl⟩ := H
  go_enter Try.func12, Try.ntmps12
  try go_wp2_with (first | ((with_reducible refine gate_dst (N := 1) rfl ?_); refine bx_ 1 #[.int .u64 a0_0, .int .u64 a0_1] 24 ?_; intro gb101 hg w21 BK101 hb; have GW101 := bg_ hg; have GE101 := GW101; replace HB := bl_ hb; clear hb hg) | ((with_reducible refine gate_dst (N := 2) rfl ?_); refine bx_ 2 #[.int .u64 0, .int .u64 0] 26 ?_; intro gb102 hg w22 BK102 hb; have GW102 := bg_ hg; have GE102 := GW102; have NB101_102 := bm_ hg BK101; have NB102_101 := bn_ hg BK101; replace BK101 := bb_ hb BK101; replace HB := bl_ hb; clear hb hg) | ((with_reducible refine gate_dst (N := 3) rfl ?_); refine bx_ 3 #[.int .i64 0, .int .i64 0] 28 ?_; intro gb103 hg w23 BK103 hb; have GW103 := bg_ hg; have GE103 := GW103; have NB101_103 := bm_ hg BK101; have NB103_101 := bn_ hg BK101; have NB102_103 := bm_ hg BK102; have NB103_102 := bn_ hg BK102; replace BK101 := bb_ hb BK101; replace BK102 := bb_ hb BK102; replace HB := bl_ hb; clear hb hg; have hnb24 := NB101_102.out; have hnc24 := NB102_101.out; have hnb25 := NB101_103.out; have hnc25 := NB103_101.out; have hcz26_0 := c0_ BK101; have hcz26_1 := c1_ BK101; have hfz26_0 := fz_ BK101 0; have hfz26_1 := fz_ BK101 1) | ((with_reducible refine gate_dst (N := 4) rfl ?_); refine bx_ 4 #[.int .u64 0, .int .u64 0] 26 ?_; intro gb104 hg w27 BK104 hb; have GW104 := bg_ hg; have GE104 := GW104; have NB101_104 := bm_ hg BK101; have NB104_101 := bn_ hg BK101; have NB102_104 := bm_ hg BK102; have NB104_102 := bn_ hg BK102; have NB103_104 := bm_ hg BK103; have NB104_103 := bn_ hg BK103; replace BK101 := bb_ hb BK101; replace BK102 := bb_ hb BK102; replace BK103 := bb_ hb BK103; replace HB := bl_ hb; clear hb hg; have hnb28 := NB104_101.out; have hnc28 := NB101_104.out; have hnb29 := NB104_102.out; have hnc29 := NB102_104.out; have hnb30 := NB104_103.out; have hnc30 := NB103_104.out; have hcz31_0 := c0_ BK104; have hcz31_1 := c1_ BK104; have hfz31_0 := fz_ BK104 0; have hfz31_1 := fz_ BK104 1; have hcz32_0 := c0_ BK101; have hcz32_1 := c1_ BK101; have hfz32_0 := fz_ BK101 0; have hfz32_1 := fz_ BK101 1))
  have n0_ : Aside0 (((w27.setCell ⟨gb104, 0, none⟩ (.int .u64 a0_0)).setCell ⟨gb104, 1, none⟩ (.int .u64 (Go.bits .or .u64 a0_0 a0_1))).heap[gb101]? = some (.cells #[.int .u64 a0_0, .int .u64 a0_1] 24 (0, 0))) := ⟨by (with_reducible repeat (first | apply bN_ | apply bD_ | apply bA_)); refine blk_far ?_ NB101_104.out _; (with_reducible repeat (first | apply bN_ | apply bD_ | apply bA_)); refine blk_far ?_ NB101_104.out _; exact bk_⟩
  have n1_ : Aside0 (((w27.setCell ⟨gb104, 0, none⟩ (.int .u64 a0_0)).setCell ⟨gb104, 1, none⟩ (.int .u64 (Go.bits .or .u64 a0_0 a0_1))).heap[gb102]? = some (.cells #[.int .u64 0, .int .u64 0] 26 (0, 0))) := ⟨by (with_reducible repeat (first | apply bN_ | apply bD_ | apply bA_)); refine blk_far ?_ NB102_104.out _; (with_reducible repeat (first | apply bN_ | apply bD_ | apply bA_)); refine blk_far ?_ NB102_104.out _; exact bk_⟩
  have n2_ : Aside0 (((w27.setCell ⟨gb104, 0, none⟩ (.int .u64 a0_0)).setCell ⟨gb104, 1, none⟩ (.int .u64 (Go.bits .or .u64 a0_0 a0_1))).heap[gb103]? = some (.cells #[.int .i64 0, .int .i64 0] 28 (0, 0))) := ⟨by (with_reducible repeat (first | apply bN_ | apply bD_ | apply bA_)); refine blk_far ?_ NB103_104.out _; (with_reducible repeat (first | apply bN_ | apply bD_ | apply bA_)); refine blk_far ?_ NB103_104.out _; exact bk_⟩
  have n3_ : Aside0 (((w27.setCell ⟨gb104, 0, none⟩ (.int .u64 a0_0)).setCell ⟨gb104, 1, none⟩ (.int .u64 (Go.bits .or .u64 a0_0 a0_1))).heap[gb104]? = some (.cells #[.int .u64 a0_0, .int .u64 (Go.bits .or .u64 a0_0 a0_1)] 26 (0, 0))) := ⟨by (with_reducible repeat (first | apply bN_ | apply bD_ | apply bA_)); refine blk_put (cs := #[.int .u64 a0_0, .int .u64 0]) ?_ 1 _ rfl; (with_reducible repeat (first | apply bN_ | apply bD_ | apply bA_)); refine blk_put (cs := #[.int .u64 0, .int .u64 0]) ?_ 0 _ rfl; exact bk_⟩
  have n4_ : Aside0 (Below w.heap.size w ((w27.setCell ⟨gb104, 0, none⟩ (.int .u64 a0_0)).setCell ⟨gb104, 1, none⟩ (.int .u64 (Go.bits .or .u64 a0_0 a0_1)))) := ⟨by repeat (first | (with_reducible first | exact HB.out | apply lA_ | apply lN_ | apply lD_ | refine lS_ ?_ GE101.out | refine lS_ ?_ GE102.out | refine lS_ ?_ GE103.out | refine lS_ ?_ GE104.out) | exact HB.out)⟩
  (try clear BK101)
  (try clear BK102)
  (try clear BK103)
  (try clear BK104)
  (try clear HB)
  generalize ((w27.setCell ⟨gb104, 0, none⟩ (.int .u64 a0_0)).setCell ⟨gb104, 1, none⟩ (.int .u64 (Go.bits .or .u64 a0_0 a0_1))) = w33 at n0_ n1_ n2_ n3_ n4_ ⊢
  have BK101 := n0_
  have BK102 := n1_
  have BK103 := n2_
  have BK104 := n3_
  have HB := n4_
  clear n0_ n1_ n2_ n3_ n4_
  replace BK101 := Aside0.mk (blk_drew BK101.out)
  replace BK102 := Aside0.mk (blk_drew BK102.out)
  replace BK103 := Aside0.mk (blk_drew BK103.out)
  replace BK104 := Aside0.mk (blk_drew BK104.out)
  replace HB := Aside0.mk (below_drew1 HB.out)
  refine start_ (n := 15) (S := fun w' => w'.cell? ⟨gb104, 0, none⟩ = some (.int .u64 a0_0) ∧ w'.cell? ⟨gb104, 1, none⟩ = some (.int .u64 (Go.bits .or .u64 a0_0 a0_1)) ∧ w'.cell? ⟨gb101, 0, none⟩ = some (.int .u64 a0_0) ∧ w'.cell? ⟨gb101, 1, none⟩ = some (.int .u64 a0_1)) (ds := []) #[n_,n_,n_,n_,n_,n_,n_,n_,n_,n_,n_,n_,n_,n_,n_] (by kernel_rfl) rfl rfl ⟨c0_ BK104, c1_ BK104, c0_ BK101, c1_ BK101⟩ (fun hHeld => ?_); refine with_tabW span_FromT.tab4 span_FromT.bits4 (fun HT_ HW_ => ?_)
  generalize w33.drew = w34 at BK101 BK102 BK103 BK104 HB hHeld ⊢
  refine pq_ 1 26 #[n_,y_,n_,n_,n_,n_,n_,n_,n_,n_,n_,n_,n_,n_,n_] ?_
  refine pq_ 5 30 #[n_,y_,n_,n_,n_,y_,n_,n_,n_,n_,n_,n_,n_,n_,n_] ?_
  refine pq_ 7 32 #[n_,y_,n_,n_,n_,y_,n_,y_,n_,n_,n_,n_,n_,n_,n_] ?_
  refine tq1_ 0 25 #[y_,y_,n_,n_,n_,y_,n_,y_,n_,n_,n_,n_,n_,n_,n_] hHeld ?_
  refine tq1_ 2 27 #[y_,y_,y_,n_,n_,y_,n_,y_,n_,n_,n_,n_,n_,n_,n_] hHeld ?_
  refine pq_ 3 28 #[y_,y_,y_,y_,n_,y_,n_,y_,n_,n_,n_,n_,n_,n_,n_] ?_
  refine pq_ 4 29 #[y_,y_,y_,y_,y_,y_,n_,y_,n_,n_,n_,n_,n_,n_,n_] ?_
  refine tq1_ 6 31 #[y_,y_,y_,y_,y_,y_,y_,y_,n_,n_,n_,n_,n_,n_,n_] hHeld ?_
  refine tq1_ 8 33 #[y_,y_,y_,y_,y_,y_,y_,y_,y_,n_,n_,n_,n_,n_,n_] hHeld ?_
  refine pq_ 9 34 #[y_,y_,y_,y_,y_,y_,y_,y_,y_,y_,n_,n_,n_,n_,n_] ?_
  refine pq_ 10 35 #[y_,y_,y_,y_,y_,y_,y_,y_,y_,y_,y_,n_,n_,n_,n_] ?_
  refine pq_ 11 36 #[y_,y_,y_,y_,y_,y_,y_,y_,y_,y_,y_,y_,n_,n_,n_] ?_
  refine pq_ 12 37 #[y_,y_,y_,y_,y_,y_,y_,y_,y_,y_,y_,y_,y_,n_,n_] ?_
  refine one_ (i := 13) (N := none) #[y_,y_,y_,y_,y_,y_,y_,y_,y_,y_,y_,y_,y_,y_,n_] rfl rfl (one_of HT_.out (by kernel_rfl)) (by decide) (fun K hK => ?_)
  have hs35 := c0_ BK102
  have hfs35 := fz_ BK102 0
  have hns35_0 := NB101_102.out
  have hns35_2 := NB103_102.out
  have hns35_3 := NB104_102.out
  have hms35_0 := NB102_101.out
  have hms35_2 := NB102_103.out
  have hms35_3 := NB102_104.out
  have hs36 := c1_ BK102
  have hfs36 := fz_ BK102 1
  have hns36_0 := NB101_102.out
  have hns36_2 := NB103_102.out
  have hns36_3 := NB104_102.out
  have hms36_0 := NB102_101.out
  have hms36_2 := NB102_103.out
  have hms36_3 := NB102_104.out
  refine skip_ (w1 := ?_) (by rfl) rfl ?_ ?_
  rotate_left
  ·go_simp
   rfl
  refine hK.out _ _ ⟨((cell_far (p := ⟨gb102, _, none⟩) NB104_102.out _).trans (((cell_far (p := ⟨gb102, _, none⟩) NB104_102.out _).trans (hHeld.1)))), ((cell_far (p := ⟨gb102, _, none⟩) NB104_102.out _).trans (((cell_far (p := ⟨gb102, _, none⟩) NB104_102.out _).trans (hHeld.2.1)))), ((cell_far (p := ⟨gb102, _, none⟩) NB101_102.out _).trans (((cell_far (p := ⟨gb102, _, none⟩) NB101_102.out _).trans (hHeld.2.2.1)))), ((cell_far (p := ⟨gb102, _, none⟩) NB101_102.out _).trans (((cell_far (p := ⟨gb102, _, none⟩) NB101_102.out _).trans (hHeld.2.2.2))))⟩ (fun hHeld => ?_)
  clear hK K
  refine one_ (i := 14) (N := none) #[y_,y_,y_,y_,y_,y_,y_,y_,y_,y_,y_,y_,y_,y_,y_] rfl rfl (one_of HT_.out (by kernel_rfl)) (by decide) (fun K hK => ?_)
  have hs37 := c0_ BK103
  have hfs37 := fz_ BK103 0
  have hns37_0 := NB101_103.out
  have hns37_1 := NB102_103.out
  have hns37_3 := NB104_103.out
  have hms37_0 := NB103_101.out
  have hms37_1 := NB103_102.out
  have hms37_3 := NB103_104.out
  have hs38 := c1_ BK103
  have hfs38 := fz_ BK103 1
  have hns38_0 := NB101_103.out
  have hns38_1 := NB102_103.out
  have hns38_3 := NB104_103.out
  have hms38_0 := NB103_101.out
  have hms38_1 := NB103_102.out
  have hms38_3 := NB103_104.out
  refine skip_ (w1 := ?_) (by rfl) rfl ?_ ?_
  rotate_left
  ·go_simp
   rfl
  refine hK.out _ _ ⟨((cell_far (p := ⟨gb103, _, none⟩) NB104_103.out _).trans (((cell_far (p := ⟨gb103, _, none⟩) NB104_103.out _).trans (hHeld.1)))), ((cell_far (p := ⟨gb103, _, none⟩) NB104_103.out _).trans (((cell_far (p := ⟨gb103, _, none⟩) NB104_103.out _).trans (hHeld.2.1)))), ((cell_far (p := ⟨gb103, _, none⟩) NB101_103.out _).trans (((cell_far (p := ⟨gb103, _, none⟩) NB101_103.out _).trans (hHeld.2.2.1)))), ((cell_far (p := ⟨gb103, _, none⟩) NB101_103.out _).trans (((cell_far (p := ⟨gb103, _, none⟩) NB101_103.out _).trans (hHeld.2.2.2))))⟩ (fun hHeld => ?_)
  clear hK K
  refine done_ (done_of HT_.out (by kernel_rfl)) ?_
  try go_wp2
  refine bodyPost_ret (results_cc rfl _ _ gb102 gb103 26 28 #[.int .u64 a0_0, .int .u64 (Go.bits .or .u64 a0_0 a0_1)] #[.int .i64 (wrap64 (Go.bits .or .u64 a0_0 9223372036854775808)), .int .i64 (wrap64 (Go.bits .or .u64 a0_0 (Go.bits .andNot .u64 a0_1 9223372036854775808)))] (0, 0) (0, 0) _ _ rfl (by (with_reducible repeat (first | apply bN_ | apply bD_ | apply bA_)); refine blk_far ?_ NB102_103.out _; (with_reducible repeat (first | apply bN_ | apply bD_ | apply bA_)); refine blk_far ?_ NB102_103.out _; (with_reducible repeat (first | apply bN_ | apply bD_ | apply bA_)); refine blk_put (cs := #[.int .u64 a0_0, .int .u64 0]) ?_ 1 _ rfl; (with_reducible repeat (first | apply bN_ | apply bD_ | apply bA_)); refine blk_put (cs := #[.int .u64 0, .int .u64 0]) ?_ 0 _ rfl; exact bk_) Try.underlying26 rfl (by kernel_rfl) rfl (by (with_reducible repeat (first | apply bN_ | apply bD_ | apply bA_)); refine blk_put (cs := #[.int .i64 (wrap64 (Go.bits .or .u64 a0_0 9223372036854775808)), .int .i64 0]) ?_ 1 _ rfl; (with_reducible repeat (first | apply bN_ | apply bD_ | apply bA_)); refine blk_put (cs := #[.int .i64 0, .int .i64 0]) ?_ 0 _ rfl; (with_reducible repeat (first | apply bN_ | apply bD_ | apply bA_)); refine blk_far ?_ NB103_102.out _; (with_reducible repeat (first | apply bN_ | apply bD_ | apply bA_)); refine blk_far ?_ NB103_102.out _; exact bk_) Try.underlying28 rfl (by kernel_rfl)) rfl ?_
  exact ⟨vv_, bz_⟩

/-! ### span_sum: function 78 -/
def span_sum.f (a0 : Int) (a1 : Int) : Option (Int × Bool) := some (wrap64 (a0 + a1), ((decide ((wrap64 (a0 + a1)) < a0)) == (decide (a1 < 0))))
set_option maxHeartbeats 8000000 in
set_option maxRecDepth 100000 in
theorem span_sum.calls (a0 : Int) (a1 : Int) (r1 : Int) (r2 : Bool) (w : World) (h : span_sum.f a0 a1 = some (r1, r2)) :
 Calls Try.prog 78 #[.int .i64 a0, .int .i64 a1] w fun e w' => e = .returned (.tuple #[.int .i64 r1, .bool r2]) ∧ Drawn0 w w' := by
 have H : (some (wrap64 (a0 + a1), ((decide ((wrap64 (a0 + a1)) < a0)) == (decide (a1 < 0))))) = some (r1, r2) := h
 clear h
 simp only [Option.some.injEq, Prod.mk.injEq] at H
 obtain ⟨rfl, rfl⟩ := H
 go_enter Try.func78, Try.ntmps78
 go_wp2
 go_ret2
 exact ⟨by first | rfl | (simp; done) | (simp [*]; done), by repeat (first | exact Drawn0.refl _ | apply Drawn0.step)⟩

/-! ### span_SAll: function 38 -/
def span_SAll.f  : Option (Int × Int) := some ((-9223372036854775808), 9223372036854775807)
set_option maxHeartbeats 8000000 in
set_option maxRecDepth 100000 in
theorem span_SAll.calls  (r1 : Int) (r2 : Int) (w : World) (h : span_SAll.f  = some (r1, r2)) :
 Calls Try.prog 38 #[] w fun e w' => e = .returned (.agg #[.int .i64 r1, .int .i64 r2]) ∧ Below w.heap.size w w' := by
 have hu28 := Try.underlying28
 have HB := Aside0.mk (Below.refl w.heap.size w)
 have H : (some ((-9223372036854775808), 9223372036854775807)) = some (r1, r2) := h
 clear h
 simp only [Option.some.injEq, Prod.mk.injEq] at H
 obtain ⟨rfl, rfl⟩ := H
 go_enter Try.func38, Try.ntmps38
 go_wp2_with (first | ((with_reducible refine gate_dst (N := 0) rfl ?_); refine bx_ 0 #[.int .i64 0, .int .i64 0] 28 ?_; intro gb112 hg w1 BK112 hb; have GW112 := bg_ hg; have GE112 := GW112; replace HB := bl_ hb; clear hb hg; have hcz2_0 := c0_ BK112; have hcz2_1 := c1_ BK112; have hfz2_0 := fz_ BK112 0; have hfz2_1 := fz_ BK112 1))
 refine bodyPost_ret (results_cell_row rfl _ _ gb112 28 #[.int .i64 (-9223372036854775808), .int .i64 9223372036854775807] (0, 0) _ rfl (by (with_reducible repeat (first | apply bN_ | apply bD_ | apply bA_)); refine blk_put (cs := #[.int .i64 (-9223372036854775808), .int .i64 0]) ?_ 1 _ rfl; (with_reducible repeat (first | apply bN_ | apply bD_ | apply bA_)); refine blk_put (cs := #[.int .i64 0, .int .i64 0]) ?_ 0 _ rfl; exact bk_) Try.underlying28 rfl (by kernel_rfl)) rfl ?_
 exact ⟨vv_, bz_⟩

/-! ### span_ends: function 79 -/
def span_ends.f (a0 : Int) (a1 : Bool) (a2 : Int) (a3 : Bool) : Option (Int × Int) := if a1 = true then (if a3 = true then (some (a0, a2)) else ((span_SAll.f).bind fun bt114 => (some (bt114.1, bt114.2)))) else ((span_SAll.f).bind fun bt116 => (some (bt116.1, bt116.2)))
set_option maxHeartbeats 8000000 in
set_option maxRecDepth 100000 in
theorem span_ends.calls (a0 : Int) (a1 : Bool) (a2 : Int) (a3 : Bool) (r1 : Int) (r2 : Int) (w : World) (h : span_ends.f a0 a1 a2 a3 = some (r1, r2)) :
 Calls Try.prog 79 #[.int .i64 a0, .bool a1, .int .i64 a2, .bool a3] w fun e w' => e = .returned (.agg #[.int .i64 r1, .int .i64 r2]) ∧ Below w.heap.size w w' := by
 have hu28 := Try.underlying28
 have HB := Aside0.mk (Below.refl w.heap.size w)
 have H : (if a1 = true then (if a3 = true then (some (a0, a2)) else ((span_SAll.f).bind fun bt114 => (some (bt114.1, bt114.2)))) else ((span_SAll.f).bind fun bt116 => (some (bt116.1, bt116.2)))) = some (r1, r2) := h
 clear h
 by_cases c5 : a1 = true
 ·subst c5
  have H1 : (if a3 = true then (some (a0, a2)) else ((span_SAll.f).bind fun bt114 => (some (bt114.1, bt114.2)))) = some (r1, r2) := by rw [if_pos rfl] at H; exact H
  clear H
  have H := H1
  clear H1
  by_cases c6 : a3 = true
  ·subst c6
   have H1 : (some (a0, a2)) = some (r1, r2) := by rw [if_pos rfl] at H; exact H
   clear H
   have H := H1
   clear H1
   simp only [Option.some.injEq, Prod.mk.injEq] at H
   obtain ⟨rfl, rfl⟩ := H
   go_enter Try.func79, Try.ntmps79
   go_wp2_with (first | ((with_reducible refine gate_dst (N := 8) rfl ?_); refine bx_ 8 #[.int .i64 0, .int .i64 0] 28 ?_; intro gb113 hg w7 BK113 hb; have GW113 := bg_ hg; have GE113 := GW113; replace HB := bl_ hb; clear hb hg; have hcz8_0 := c0_ BK113; have hcz8_1 := c1_ BK113; have hfz8_0 := fz_ BK113 0; have hfz8_1 := fz_ BK113 1))
   refine bodyPost_ret (results_cell_row rfl _ _ gb113 28 #[.int .i64 a0, .int .i64 a2] (0, 0) _ rfl (by (with_reducible repeat (first | apply bN_ | apply bD_ | apply bA_)); refine blk_put (cs := #[.int .i64 a0, .int .i64 0]) ?_ 1 _ rfl; (with_reducible repeat (first | apply bN_ | apply bD_ | apply bA_)); refine blk_put (cs := #[.int .i64 0, .int .i64 0]) ?_ 0 _ rfl; exact bk_) Try.underlying28 rfl (by kernel_rfl)) rfl ?_
   exact ⟨vv_, bz_⟩
  ·replace c6 := Bool.eq_false_iff.mpr c6
   subst c6
   have H1 : ((span_SAll.f).bind fun bt114 => (some (bt114.1, bt114.2))) = some (r1, r2) := by rw [if_neg (show ¬ (false = true) by decide)] at H; exact H
   clear H
   have H := H1
   clear H1
   replace H := Option.bind_eq_some_iff.mp H
   obtain ⟨⟨t114, t115⟩, A90, H⟩ := H
   replace H : (some (t114, t115)) = some (r1, r2) := H
   have A9 := Aside0.mk A90
   clear A90
   simp only [Option.some.injEq, Prod.mk.injEq] at H
   obtain ⟨rfl, rfl⟩ := H
   go_enter Try.func79, Try.ntmps79
   go_wp2_with (first | ((with_reducible refine gate_dst (N := 8) rfl ?_); refine bx_ 8 #[.int .i64 0, .int .i64 0] 28 ?_; intro gb113 hg w10 BK113 hb; have GW113 := bg_ hg; have GE113 := GW113; replace HB := bl_ hb; clear hb hg) | ((with_reducible refine gate_callee (f := 38) rfl ?_); refine goesL_ (some 15) rfl rfl Try.func38 (by kernel_rfl) rfl #[] rfl (by (try simp only [List.map_toArray, List.map_cons, List.map_nil]); first | done | rfl) ?_; (with_reducible refine (span_SAll.calls  t114 t115 _ A9.out).mono ?_); rintro e w11 ⟨rfl, hb⟩; refine ⟨_, rfl, ?_⟩; replace BK113 := bb_ hb BK113; replace HB := bl_ hb; (try clear hb); (try clear hb2); (try clear hk); (try clear hi); have hcz12_0 := c0_ BK113; have hcz12_1 := c1_ BK113; have hfz12_0 := fz_ BK113 0; have hfz12_1 := fz_ BK113 1))
   refine bodyPost_ret (results_cell_row rfl _ _ gb113 28 #[.int .i64 t114, .int .i64 t115] (0, 0) _ rfl (by (with_reducible repeat (first | apply bN_ | apply bD_ | apply bA_)); refine blk_put (cs := #[.int .i64 t114, .int .i64 0]) ?_ 1 _ rfl; (with_reducible repeat (first | apply bN_ | apply bD_ | apply bA_)); refine blk_put (cs := #[.int .i64 0, .int .i64 0]) ?_ 0 _ rfl; exact bk_) Try.underlying28 rfl (by kernel_rfl)) rfl ?_
   exact ⟨vv_, bz_⟩
 ·replace c5 := Bool.eq_false_iff.mpr c5
  subst c5
  have H1 : ((span_SAll.f).bind fun bt116 => (some (bt116.1, bt116.2))) = some (r1, r2) := by rw [if_neg (show ¬ (false = true) by decide)] at H; exact H
  clear H
  have H := H1
  clear H1
  replace H := Option.bind_eq_some_iff.mp H
  obtain ⟨⟨t116, t117⟩, A130, H⟩ := H
  replace H : (some (t116, t117)) = some (r1, r2) := H
  have A13 := Aside0.mk A130
  clear A130
  simp only [Option.some.injEq, Prod.mk.injEq] at H
  obtain ⟨rfl, rfl⟩ := H
  go_enter Try.func79, Try.ntmps79
  go_wp2_with (first | ((with_reducible refine gate_dst (N := 8) rfl ?_); refine bx_ 8 #[.int .i64 0, .int .i64 0] 28 ?_; intro gb113 hg w14 BK113 hb; have GW113 := bg_ hg; have GE113 := GW113; replace HB := bl_ hb; clear hb hg) | ((with_reducible refine gate_callee (f := 38) rfl ?_); refine goesL_ (some 15) rfl rfl Try.func38 (by kernel_rfl) rfl #[] rfl (by (try simp only [List.map_toArray, List.map_cons, List.map_nil]); first | done | rfl) ?_; (with_reducible refine (span_SAll.calls  t116 t117 _ A13.out).mono ?_); rintro e w15 ⟨rfl, hb⟩; refine ⟨_, rfl, ?_⟩; replace BK113 := bb_ hb BK113; replace HB := bl_ hb; (try clear hb); (try clear hb2); (try clear hk); (try clear hi); have hcz16_0 := c0_ BK113; have hcz16_1 := c1_ BK113; have hfz16_0 := fz_ BK113 0; have hfz16_1 := fz_ BK113 1))
  refine bodyPost_ret (results_cell_row rfl _ _ gb113 28 #[.int .i64 t116, .int .i64 t117] (0, 0) _ rfl (by (with_reducible repeat (first | apply bN_ | apply bD_ | apply bA_)); refine blk_put (cs := #[.int .i64 t116, .int .i64 0]) ?_ 1 _ rfl; (with_reducible repeat (first | apply bN_ | apply bD_ | apply bA_)); refine blk_put (cs := #[.int .i64 0, .int .i64 0]) ?_ 0 _ rfl; exact bk_) Try.underlying28 rfl (by kernel_rfl)) rfl ?_
  exact ⟨vv_, bz_⟩

/-! ### span_SAdd: function 19 -/
def span_SAdd.f (a0_0 : Int) (a0_1 : Int) (a1_0 : Int) (a1_1 : Int) : Option (Int × Int) := (span_sum.f a0_0 a1_0).bind fun bt121 => ((span_sum.f a0_1 a1_1).bind fun bt123 => ((span_ends.f bt121.1 bt121.2 bt123.1 bt123.2).bind fun bt125 => (some (bt125.1, bt125.2))))
set_option maxHeartbeats 8000000 in
set_option maxRecDepth 100000 in
theorem span_SAdd.calls (a0_0 : Int) (a0_1 : Int) (a1_0 : Int) (a1_1 : Int) (r1 : Int) (r2 : Int) (w : World) (h : span_SAdd.f a0_0 a0_1 a1_0 a1_1 = some (r1, r2)) :
 Calls Try.prog 19 #[.agg #[.int .i64 a0_0, .int .i64 a0_1], .agg #[.int .i64 a1_0, .int .i64 a1_1]] w fun e w' => e = .returned (.agg #[.int .i64 r1, .int .i64 r2]) ∧ Below w.heap.size w w' := by
 have hu28 := Try.underlying28
 have HB := Aside0.mk (Below.refl w.heap.size w)
 have H : ((span_sum.f a0_0 a1_0).bind fun bt121 => ((span_sum.f a0_1 a1_1).bind fun bt123 => ((span_ends.f bt121.1 bt121.2 bt123.1 bt123.2).bind fun bt125 => (some (bt125.1, bt125.2))))) = some (r1, r2) := h
 clear h
 replace H := Option.bind_eq_some_iff.mp H
 obtain ⟨⟨t121, t122⟩, A30, H⟩ := H
 replace H : ((span_sum.f a0_1 a1_1).bind fun bt123 => ((span_ends.f t121 t122 bt123.1 bt123.2).bind fun bt125 => (some (bt125.1, bt125.2)))) = some (r1, r2) := H
 have A3 := Aside0.mk A30
 clear A30
 replace H := Option.bind_eq_some_iff.mp H
 obtain ⟨⟨t123, t124⟩, A40, H⟩ := H
 replace H : ((span_ends.f t121 t122 t123 t124).bind fun bt125 => (some (bt125.1, bt125.2))) = some (r1, r2) := H
 have A4 := Aside0.mk A40
 clear A40
 replace H := Option.bind_eq_some_iff.mp H
 obtain ⟨⟨t125, t126⟩, A50, H⟩ := H
 replace H : (some (t125, t126)) = some (r1, r2) := H
 have A5 := Aside0.mk A50
 clear A50
 simp only [Option.some.injEq, Prod.mk.injEq] at H
 obtain ⟨rfl, rfl⟩ := H
 go_enter Try.func19, Try.ntmps19
 go_wp2_with (first | ((with_reducible refine gate_dst (N := 2) rfl ?_); refine bx_ 2 #[.int .i64 a0_0, .int .i64 a0_1] 28 ?_; intro gb118 hg w6 BK118 hb; have GW118 := bg_ hg; have GE118 := GW118; replace HB := bl_ hb; clear hb hg) | ((with_reducible refine gate_dst (N := 3) rfl ?_); refine bx_ 3 #[.int .i64 a1_0, .int .i64 a1_1] 28 ?_; intro gb119 hg w7 BK119 hb; have GW119 := bg_ hg; have GE119 := GW119; have NB118_119 := bm_ hg BK118; have NB119_118 := bn_ hg BK118; replace BK118 := bb_ hb BK118; replace HB := bl_ hb; clear hb hg) | ((with_reducible refine gate_dst (N := 4) rfl ?_); refine bx_ 4 #[.int .i64 0, .int .i64 0] 28 ?_; intro gb120 hg w8 BK120 hb; have GW120 := bg_ hg; have GE120 := GW120; have NB118_120 := bm_ hg BK118; have NB120_118 := bn_ hg BK118; have NB119_120 := bm_ hg BK119; have NB120_119 := bn_ hg BK119; replace BK118 := bb_ hb BK118; replace BK119 := bb_ hb BK119; replace HB := bl_ hb; clear hb hg; have hnb9 := NB118_119.out; have hnc9 := NB119_118.out; have hnb10 := NB118_120.out; have hnc10 := NB120_118.out; have hcz11_0 := c0_ BK118; have hcz11_1 := c1_ BK118; have hfz11_0 := fz_ BK118 0; have hfz11_1 := fz_ BK118 1; have hnb12 := NB119_120.out; have hnc12 := NB120_119.out; have hcz13_0 := c0_ BK119; have hcz13_1 := c1_ BK119; have hfz13_0 := fz_ BK119 0; have hfz13_1 := fz_ BK119 1) | ((with_reducible refine gate_callee (f := 78) rfl ?_); refine goesL_ (some 14) rfl rfl Try.func78 (by kernel_rfl) rfl #[.int .i64 a0_0, .int .i64 a1_0] rfl (by (try simp only [List.map_toArray, List.map_cons, List.map_nil]); first | done | rfl) ?_; (with_reducible refine (span_sum.calls a0_0 a1_0 t121 t122 _ A3.out).mono ?_); rintro e w' ⟨rfl, ⟨nd, rfl⟩⟩; refine ⟨_, rfl, ?_⟩; (try (rw [drewN_self w8]; generalize hq_ : World.drewN w8 _ = w8; have n0_ : Aside0 (w8.heap[gb118]? = some (.cells #[.int .i64 a0_0, .int .i64 a0_1] 28 (0, 0))) := ⟨by rw [← hq_]; exact (by exact bk_)⟩; have n1_ : Aside0 (w8.heap[gb119]? = some (.cells #[.int .i64 a1_0, .int .i64 a1_1] 28 (0, 0))) := ⟨by rw [← hq_]; exact (by exact bk_)⟩; have n2_ : Aside0 (w8.heap[gb120]? = some (.cells #[.int .i64 0, .int .i64 0] 28 (0, 0))) := ⟨by rw [← hq_]; exact (by exact bk_)⟩; have n3_ : Aside0 (Below w.heap.size w w8) := ⟨by rw [← hq_]; exact (by repeat (first | (with_reducible first | exact HB.out | apply lA_ | apply lN_ | apply lD_ | refine lS_ ?_ GE118.out | refine lS_ ?_ GE119.out | refine lS_ ?_ GE120.out) | exact HB.out))⟩; clear BK118 BK119 BK120 HB hq_; have BK118 := n0_; have BK119 := n1_; have BK120 := n2_; have HB := n3_; clear n0_ n1_ n2_ n3_)); have hcygb118_0 := c0_ BK118; have hfygb118_0 := fz_ BK118 0; have hcygb118_1 := c1_ BK118; have hfygb118_1 := fz_ BK118 1; have hcygb119_0 := c0_ BK119; have hfygb119_0 := fz_ BK119 0; have hcygb119_1 := c1_ BK119; have hfygb119_1 := fz_ BK119 1; have hcygb120_0 := c0_ BK120; have hfygb120_0 := fz_ BK120 0; have hcygb120_1 := c1_ BK120; have hfygb120_1 := fz_ BK120 1) | ((with_reducible refine gate_callee (f := 78) rfl ?_); refine goesL_ (some 22) rfl rfl Try.func78 (by kernel_rfl) rfl #[.int .i64 a0_1, .int .i64 a1_1] rfl (by (try simp only [List.map_toArray, List.map_cons, List.map_nil]); first | done | rfl) ?_; (with_reducible refine (span_sum.calls a0_1 a1_1 t123 t124 _ A4.out).mono ?_); rintro e w' ⟨rfl, ⟨nd, rfl⟩⟩; refine ⟨_, rfl, ?_⟩; (try (rw [drewN_self w8]; generalize hq_ : World.drewN w8 _ = w8; have n0_ : Aside0 (w8.heap[gb118]? = some (.cells #[.int .i64 a0_0, .int .i64 a0_1] 28 (0, 0))) := ⟨by rw [← hq_]; exact (by exact bk_)⟩; have n1_ : Aside0 (w8.heap[gb119]? = some (.cells #[.int .i64 a1_0, .int .i64 a1_1] 28 (0, 0))) := ⟨by rw [← hq_]; exact (by exact bk_)⟩; have n2_ : Aside0 (w8.heap[gb120]? = some (.cells #[.int .i64 0, .int .i64 0] 28 (0, 0))) := ⟨by rw [← hq_]; exact (by exact bk_)⟩; have n3_ : Aside0 (Below w.heap.size w w8) := ⟨by rw [← hq_]; exact (by repeat (first | (with_reducible first | exact HB.out | apply lA_ | apply lN_ | apply lD_ | refine lS_ ?_ GE118.out | refine lS_ ?_ GE119.out | refine lS_ ?_ GE120.out) | exact HB.out))⟩; clear BK118 BK119 BK120 HB hq_; have BK118 := n0_; have BK119 := n1_; have BK120 := n2_; have HB := n3_; clear n0_ n1_ n2_ n3_)); have hcygb118_0 := c0_ BK118; have hfygb118_0 := fz_ BK118 0; have hcygb118_1 := c1_ BK118; have hfygb118_1 := fz_ BK118 1; have hcygb119_0 := c0_ BK119; have hfygb119_0 := fz_ BK119 0; have hcygb119_1 := c1_ BK119; have hfygb119_1 := fz_ BK119 1; have hcygb120_0 := c0_ BK120; have hfygb120_0 := fz_ BK120 0; have hcygb120_1 := c1_ BK120; have hfygb120_1 := fz_ BK120 1) | ((with_reducible refine gate_callee (f := 79) rfl ?_); refine goesL_ (some 29) rfl rfl Try.func79 (by kernel_rfl) rfl #[.int .i64 t121, .bool t122, .int .i64 t123, .bool t124] rfl (by (try simp only [List.map_toArray, List.map_cons, List.map_nil]); first | done | rfl) ?_; (with_reducible refine (span_ends.calls t121 t122 t123 t124 t125 t126 _ A5.out).mono ?_); rintro e w14 ⟨rfl, hb⟩; refine ⟨_, rfl, ?_⟩; replace BK118 := bb_ hb BK118; replace BK119 := bb_ hb BK119; replace BK120 := bb_ hb BK120; replace HB := bl_ hb; (try clear hb); (try clear hb2); (try clear hk); (try clear hi); have hcz15_0 := c0_ BK120; have hcz15_1 := c1_ BK120; have hfz15_0 := fz_ BK120 0; have hfz15_1 := fz_ BK120 1))
 refine bodyPost_ret (results_cell_row rfl _ _ gb120 28 #[.int .i64 t125, .int .i64 t126] (0, 0) _ rfl (by (with_reducible repeat (first | apply bN_ | apply bD_ | apply bA_)); refine blk_put (cs := #[.int .i64 t125, .int .i64 0]) ?_ 1 _ rfl; (with_reducible repeat (first | apply bN_ | apply bD_ | apply bA_)); refine blk_put (cs := #[.int .i64 0, .int .i64 0]) ?_ 0 _ rfl; exact bk_) Try.underlying28 rfl (by kernel_rfl)) rfl ?_
 exact ⟨vv_, bz_⟩

end Go.Proofs.Ytnephcecobocdaa.PA
