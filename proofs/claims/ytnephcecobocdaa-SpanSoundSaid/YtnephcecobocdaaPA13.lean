-- PRINTED by print.py (a twelfth state) out of the translation. Not trusted: Lean checks it.
import Derived.Test.YtnephcecobocdaaWTab
import Derived.Test.YtnephcecobocdaaPA0
import Derived.Test.YtnephcecobocdaaSq
import Derived.Test.YtnephcecobocdaaPA12
namespace Go.Proofs.Ytnephcecobocdaa.PA
open Go.RowKit Go.Proofs.YtnephcecobocdaaW.PrintWords Go.Proofs.YtnephcecobocdaaW.PrintLast Go.Proofs.YtnephcecobocdaaW.PrintMore
attribute [local go_sem] max2_int min2_int max_two min_two max_three min_three max_four min_four   -- for this text's walks alone
set_option linter.unusedVariables false
set_option linter.unusedSimpArgs false

/-! ### lockgateref04_FromT: function 13 -/
def lockgateref04_FromT.f (a0_0 : Int) (a0_1 : Int) : Option (Int × Int × Int × Int) := (lockgateref04_top.f).bind fun t109 => (if a0_1 < t109 then (some (a0_0, IntKind.u64.wrap (a0_0 + a0_1), wrap64 (a0_0), wrap64 (IntKind.u64.wrap (a0_0 + a0_1)))) else ((lockgateref04_top.f).bind fun t110 => ((lockgateref04_top.f).bind fun t111 => (some (a0_0, IntKind.u64.wrap (a0_0 + a0_1), wrap64 (IntKind.u64.wrap (a0_0 + t110)), wrap64 (IntKind.u64.wrap (a0_0 + (IntKind.u64.wrap (a0_1 - t111)))))))))
def lockgateref04_FromT.T3 : Bool × List (List Nat × List Nat) := (true, [([], []), ([], []), ([1], [1]), ([2], [2]), ([], []), ([4], [4]), ([5], [5]), ([3, 6], [3, 6]), ([0, 0], [0]), ([7, 8, 0, 1, 2, 3, 4, 5, 6, 7, 8], [7])])
def lockgateref04_FromT.B3 : List Nat := [0, 0, 2, 6, 0, 16, 48, 126, 1, 511]
theorem lockgateref04_FromT.tab3 : rtab .any (opsOf Try.f13 3) = lockgateref04_FromT.T3 := by kernel_rfl
theorem lockgateref04_FromT.bits3 : waitsOk lockgateref04_FromT.T3.2 lockgateref04_FromT.B3 = true := by kernel_rfl
def lockgateref04_FromT.T4 : Bool × List (List Nat × List Nat) := (true, [([], []), ([], []), ([1], [1]), ([], []), ([2, 3], [2, 3]), ([4], [4]), ([], []), ([6], [6]), ([], []), ([8], [8]), ([3], []), ([9, 10], [9, 10]), ([7, 11], [7, 11]), ([12], [12]), ([5, 13], [5, 13]), ([0, 10, 0], [0]), ([14, 15, 0, 1, 2, 3, 4, 5, 6, 7, 8, 9, 10, 11, 12, 13, 14, 15], [14])])
def lockgateref04_FromT.B4 : List Nat := [0, 0, 2, 0, 14, 30, 0, 64, 0, 256, 8, 1800, 4040, 8136, 16382, 1033, 65535]
theorem lockgateref04_FromT.tab4 : rtab .any (opsOf Try.f13 4) = lockgateref04_FromT.T4 := by kernel_rfl
theorem lockgateref04_FromT.bits4 : waitsOk lockgateref04_FromT.T4.2 lockgateref04_FromT.B4 = true := by kernel_rfl
set_option maxHeartbeats 8000000 in
set_option maxRecDepth 100000 in
theorem lockgateref04_FromT.calls (a0_0 : Int) (a0_1 : Int) (r1 : Int) (r2 : Int) (r3 : Int) (r4 : Int) (w : World) (h : lockgateref04_FromT.f a0_0 a0_1 = some (r1, r2, r3, r4)) :
 Calls Try.prog 13 #[.agg #[.int .u64 a0_0, .int .u64 a0_1]] w fun e w' => e = .returned (.tuple #[.agg #[.int .u64 r1, .int .u64 r2], .agg #[.int .i64 r3, .int .i64 r4]]) ∧ Below w.heap.size w w' := by
 have hu24 := Try.underlying24
 have hu26 := Try.underlying26
 have hu28 := Try.underlying28
 have HB := Aside0.mk (Below.refl w.heap.size w)
 have H : ((lockgateref04_top.f).bind fun t109 => (if a0_1 < t109 then (some (a0_0, IntKind.u64.wrap (a0_0 + a0_1), wrap64 (a0_0), wrap64 (IntKind.u64.wrap (a0_0 + a0_1)))) else ((lockgateref04_top.f).bind fun t110 => ((lockgateref04_top.f).bind fun t111 => (some (a0_0, IntKind.u64.wrap (a0_0 + a0_1), wrap64 (IntKind.u64.wrap (a0_0 + t110)), wrap64 (IntKind.u64.wrap (a0_0 + (IntKind.u64.wrap (a0_1 - t111)))))))))) = some (r1, r2, r3, r4) := h
 clear h
 replace H := Option.bind_eq_some_iff.mp H
 obtain ⟨t109, A20, H⟩ := H
 replace H : (if a0_1 < t109 then (some (a0_0, IntKind.u64.wrap (a0_0 + a0_1), wrap64 (a0_0), wrap64 (IntKind.u64.wrap (a0_0 + a0_1)))) else ((lockgateref04_top.f).bind fun t110 => ((lockgateref04_top.f).bind fun t111 => (some (a0_0, IntKind.u64.wrap (a0_0 + a0_1), wrap64 (IntKind.u64.wrap (a0_0 + t110)), wrap64 (IntKind.u64.wrap (a0_0 + (IntKind.u64.wrap (a0_1 - t111))))))))) = some (r1, r2, r3, r4) := H
 have A2 := Aside0.mk A20
 clear A20
 by_cases c3 : a0_1 < t109
 ·rw [if_pos c3] at H
  have c3b0 : decide (a0_1 < t109) = true := decide_eq_true c3
  clear c3
  simp only [Option.some.injEq, Prod.mk.injEq] at H
  obtain ⟨rfl, rfl, rfl, rfl⟩ := H
  go_enter Try.func13, Try.ntmps13
  try go_wp2_with (first | ((with_reducible refine gate_dst (N := 1) rfl ?_); refine bx_ 1 #[.int .u64 a0_0, .int .u64 a0_1] 24 ?_; intro gb105 hg w4 BK105 hb; have GW105 := bg_ hg; have GE105 := GW105; replace HB := bl_ hb; clear hb hg) | ((with_reducible refine gate_dst (N := 2) rfl ?_); refine bx_ 2 #[.int .u64 0, .int .u64 0] 26 ?_; intro gb106 hg w5 BK106 hb; have GW106 := bg_ hg; have GE106 := GW106; have NB105_106 := bm_ hg BK105; have NB106_105 := bn_ hg BK105; replace BK105 := bb_ hb BK105; replace HB := bl_ hb; clear hb hg) | ((with_reducible refine gate_dst (N := 3) rfl ?_); refine bx_ 3 #[.int .i64 0, .int .i64 0] 28 ?_; intro gb107 hg w6 BK107 hb; have GW107 := bg_ hg; have GE107 := GW107; have NB105_107 := bm_ hg BK105; have NB107_105 := bn_ hg BK105; have NB106_107 := bm_ hg BK106; have NB107_106 := bn_ hg BK106; replace BK105 := bb_ hb BK105; replace BK106 := bb_ hb BK106; replace HB := bl_ hb; clear hb hg; have hnb7 := NB105_106.out; have hnc7 := NB106_105.out; have hnb8 := NB105_107.out; have hnc8 := NB107_105.out; have hcz9_0 := c0_ BK105; have hcz9_1 := c1_ BK105; have hfz9_0 := fz_ BK105 0; have hfz9_1 := fz_ BK105 1) | ((with_reducible refine gate_dst (N := 4) rfl ?_); refine bx_ 4 #[.int .u64 0, .int .u64 0] 26 ?_; intro gb108 hg w10 BK108 hb; have GW108 := bg_ hg; have GE108 := GW108; have NB105_108 := bm_ hg BK105; have NB108_105 := bn_ hg BK105; have NB106_108 := bm_ hg BK106; have NB108_106 := bn_ hg BK106; have NB107_108 := bm_ hg BK107; have NB108_107 := bn_ hg BK107; replace BK105 := bb_ hb BK105; replace BK106 := bb_ hb BK106; replace BK107 := bb_ hb BK107; replace HB := bl_ hb; clear hb hg; have hnb11 := NB108_105.out; have hnc11 := NB105_108.out; have hnb12 := NB108_106.out; have hnc12 := NB106_108.out; have hnb13 := NB108_107.out; have hnc13 := NB107_108.out; have hcz14_0 := c0_ BK108; have hcz14_1 := c1_ BK108; have hfz14_0 := fz_ BK108 0; have hfz14_1 := fz_ BK108 1))
  have n0_ : Aside0 (((w10.setCell ⟨gb108, 0, none⟩ (.int .u64 a0_0)).setCell ⟨gb108, 1, none⟩ (.int .u64 (IntKind.u64.wrap (a0_0 + a0_1)))).heap[gb105]? = some (.cells #[.int .u64 a0_0, .int .u64 a0_1] 24 (0, 0))) := ⟨by (with_reducible repeat (first | apply bN_ | apply bD_ | apply bA_)); refine blk_far ?_ NB105_108.out _; (with_reducible repeat (first | apply bN_ | apply bD_ | apply bA_)); refine blk_far ?_ NB105_108.out _; exact bk_⟩
  have n1_ : Aside0 (((w10.setCell ⟨gb108, 0, none⟩ (.int .u64 a0_0)).setCell ⟨gb108, 1, none⟩ (.int .u64 (IntKind.u64.wrap (a0_0 + a0_1)))).heap[gb106]? = some (.cells #[.int .u64 0, .int .u64 0] 26 (0, 0))) := ⟨by (with_reducible repeat (first | apply bN_ | apply bD_ | apply bA_)); refine blk_far ?_ NB106_108.out _; (with_reducible repeat (first | apply bN_ | apply bD_ | apply bA_)); refine blk_far ?_ NB106_108.out _; exact bk_⟩
  have n2_ : Aside0 (((w10.setCell ⟨gb108, 0, none⟩ (.int .u64 a0_0)).setCell ⟨gb108, 1, none⟩ (.int .u64 (IntKind.u64.wrap (a0_0 + a0_1)))).heap[gb107]? = some (.cells #[.int .i64 0, .int .i64 0] 28 (0, 0))) := ⟨by (with_reducible repeat (first | apply bN_ | apply bD_ | apply bA_)); refine blk_far ?_ NB107_108.out _; (with_reducible repeat (first | apply bN_ | apply bD_ | apply bA_)); refine blk_far ?_ NB107_108.out _; exact bk_⟩
  have n3_ : Aside0 (((w10.setCell ⟨gb108, 0, none⟩ (.int .u64 a0_0)).setCell ⟨gb108, 1, none⟩ (.int .u64 (IntKind.u64.wrap (a0_0 + a0_1)))).heap[gb108]? = some (.cells #[.int .u64 a0_0, .int .u64 (IntKind.u64.wrap (a0_0 + a0_1))] 26 (0, 0))) := ⟨by (with_reducible repeat (first | apply bN_ | apply bD_ | apply bA_)); refine blk_put (cs := #[.int .u64 a0_0, .int .u64 0]) ?_ 1 _ rfl; (with_reducible repeat (first | apply bN_ | apply bD_ | apply bA_)); refine blk_put (cs := #[.int .u64 0, .int .u64 0]) ?_ 0 _ rfl; exact bk_⟩
  have n4_ : Aside0 (Below w.heap.size w ((w10.setCell ⟨gb108, 0, none⟩ (.int .u64 a0_0)).setCell ⟨gb108, 1, none⟩ (.int .u64 (IntKind.u64.wrap (a0_0 + a0_1))))) := ⟨by repeat (first | (with_reducible first | exact HB.out | apply lA_ | apply lN_ | apply lD_ | refine lS_ ?_ GE105.out | refine lS_ ?_ GE106.out | refine lS_ ?_ GE107.out | refine lS_ ?_ GE108.out) | exact HB.out)⟩
  (try clear BK105)
  (try clear BK106)
  (try clear BK107)
  (try clear BK108)
  (try clear HB)
  generalize ((w10.setCell ⟨gb108, 0, none⟩ (.int .u64 a0_0)).setCell ⟨gb108, 1, none⟩ (.int .u64 (IntKind.u64.wrap (a0_0 + a0_1)))) = w15 at n0_ n1_ n2_ n3_ n4_ ⊢
  have BK105 := n0_
  have BK106 := n1_
  have BK107 := n2_
  have BK108 := n3_
  have HB := n4_
  clear n0_ n1_ n2_ n3_ n4_
  replace BK105 := Aside0.mk (blk_drew BK105.out)
  replace BK106 := Aside0.mk (blk_drew BK106.out)
  replace BK107 := Aside0.mk (blk_drew BK107.out)
  replace BK108 := Aside0.mk (blk_drew BK108.out)
  replace HB := Aside0.mk (below_drew1 HB.out)
  refine start_ (n := 4) (S := fun w' => w'.cell? ⟨gb105, 0, none⟩ = some (.int .u64 a0_0) ∧ w'.cell? ⟨gb105, 1, none⟩ = some (.int .u64 a0_1)) (ds := []) #[n_,n_,n_,n_] (by kernel_rfl) rfl rfl ⟨c0_ BK105, c1_ BK105⟩ (fun hHeld => ?_)
  generalize w15.drew = w16 at BK105 BK106 BK107 BK108 HB hHeld ⊢
  refine pure_ (i := 0) (N := some 13) (v := ?_) (a' := ?_) #[y_,n_,n_,n_] rfl rfl (by kernel_rfl) (fun _ _ _ h => h) (Or.inl ⟨by rfl, ?_⟩) ?_ ?_
  rotate_left
  ·intro w'
   go_simp
   with_reducible rfl
  rotate_left
  ·simp only [Act.put, s1_, s2_, s3_, i64_w, i32_w]
   rfl
  refine take_ (i := 1) (N := some 14) (v := ?_) (a' := ?_) #[y_,y_,n_,n_] rfl rfl (by kernel_rfl) (fun _ _ _ h => h) (Or.inl ⟨by rfl, ?_⟩) hHeld ?_ ?_
  rotate_left
  ·rintro w' ⟨s0, s1⟩
   go_simp
   with_reducible rfl
  rotate_left
  ·simp only [Act.put, s1_, s2_, s3_, i64_w, i32_w]
   rfl
  refine one_ (i := 2) (N := some 15) #[y_,y_,y_,n_] rfl rfl (by kernel_rfl) (by decide) (fun K hK => ?_)
  refine goes_ Try.func75 (by kernel_rfl) rfl #[] (by rfl) rfl rfl (by (try simp only [List.map_toArray, List.map_cons, List.map_nil]); first | done | rfl) ?_
  with_reducible refine (lockgateref04_top.calls  t109 _ A2.out).mono ?_
  rintro e w' ⟨rfl, ⟨nd, rfl⟩⟩
  refine ⟨_, rfl, ?_⟩
  refine hK.out _ _ ⟨c0_ BK105, c1_ BK105⟩ (fun hHeld => ?_)
  clear hK K
  refine norm_ (a' := ?_) ?_ ?_
  rotate_left
  ·show Act.put _ (some 15) _ = _
   simp only [Act.put, s1_, s2_, s3_, i64_w, i32_w]
   rfl
  refine pure_ (i := 3) (N := some 16) (v := ?_) (a' := ?_) #[y_,y_,y_,y_] rfl rfl (by kernel_rfl) (fun _ _ _ h => h) (Or.inl ⟨by rfl, ?_⟩) ?_ ?_
  rotate_left
  ·intro w'
   go_simp
   with_reducible rfl
  rotate_left
  ·simp only [Act.put, s1_, s2_, s3_, i64_w, i32_w]
   rfl
  refine done_ (by kernel_rfl) ?_
  try go_wp2
  (try (rw [drewN_self w16]; generalize hq_ : World.drewN w16 _ = w16; have n0_ : Aside0 (w16.heap[gb105]? = some (.cells #[.int .u64 a0_0, .int .u64 a0_1] 24 (0, 0))) := ⟨by rw [← hq_]; exact (by exact bk_)⟩; have n1_ : Aside0 (w16.heap[gb106]? = some (.cells #[.int .u64 0, .int .u64 0] 26 (0, 0))) := ⟨by rw [← hq_]; exact (by exact bk_)⟩; have n2_ : Aside0 (w16.heap[gb107]? = some (.cells #[.int .i64 0, .int .i64 0] 28 (0, 0))) := ⟨by rw [← hq_]; exact (by exact bk_)⟩; have n3_ : Aside0 (w16.heap[gb108]? = some (.cells #[.int .u64 a0_0, .int .u64 (IntKind.u64.wrap (a0_0 + a0_1))] 26 (0, 0))) := ⟨by rw [← hq_]; exact (by exact bk_)⟩; have n4_ : Aside0 (Below w.heap.size w w16) := ⟨by rw [← hq_]; exact (by repeat (first | (with_reducible first | exact HB.out | apply lA_ | apply lN_ | apply lD_ | refine lS_ ?_ GE105.out | refine lS_ ?_ GE106.out | refine lS_ ?_ GE107.out | refine lS_ ?_ GE108.out) | exact HB.out))⟩; clear BK105 BK106 BK107 BK108 HB hq_; have BK105 := n0_; have BK106 := n1_; have BK107 := n2_; have BK108 := n3_; have HB := n4_; clear n0_ n1_ n2_ n3_ n4_))
  replace BK105 := Aside0.mk (blk_drew BK105.out)
  replace BK106 := Aside0.mk (blk_drew BK106.out)
  replace BK107 := Aside0.mk (blk_drew BK107.out)
  replace BK108 := Aside0.mk (blk_drew BK108.out)
  replace HB := Aside0.mk (below_drew1 HB.out)
  refine start_ (n := 10) (S := fun w' => w'.cell? ⟨gb108, 0, none⟩ = some (.int .u64 a0_0) ∧ w'.cell? ⟨gb108, 1, none⟩ = some (.int .u64 (IntKind.u64.wrap (a0_0 + a0_1)))) (ds := []) #[n_,n_,n_,n_,n_,n_,n_,n_,n_,n_] (by kernel_rfl) rfl rfl ⟨c0_ BK108, c1_ BK108⟩ (fun hHeld => ?_); refine with_tabW lockgateref04_FromT.tab3 lockgateref04_FromT.bits3 (fun HT_ HW_ => ?_)
  generalize w16.drew = w17 at BK105 BK106 BK107 BK108 HB hHeld ⊢
  refine pq_ 1 18 #[n_,y_,n_,n_,n_,n_,n_,n_,n_,n_] ?_
  refine pq_ 4 21 #[n_,y_,n_,n_,y_,n_,n_,n_,n_,n_] ?_
  refine tq0_ 0 17 #[y_,y_,n_,n_,y_,n_,n_,n_,n_,n_] hHeld ?_
  refine tq0_ 2 19 #[y_,y_,y_,n_,y_,n_,n_,n_,n_,n_] hHeld ?_
  refine pq_ 3 20 #[y_,y_,y_,y_,y_,n_,n_,n_,n_,n_] ?_
  refine tq0_ 5 22 #[y_,y_,y_,y_,y_,y_,n_,n_,n_,n_] hHeld ?_
  refine pq_ 6 23 #[y_,y_,y_,y_,y_,y_,y_,n_,n_,n_] ?_
  refine pq_ 7 24 #[y_,y_,y_,y_,y_,y_,y_,y_,n_,n_] ?_
  refine one_ (i := 8) (N := none) #[y_,y_,y_,y_,y_,y_,y_,y_,y_,n_] rfl rfl (one_of HT_.out (by kernel_rfl)) (by decide) (fun K hK => ?_)
  have hs18 := c0_ BK106
  have hfs18 := fz_ BK106 0
  have hns18_0 := NB105_106.out
  have hns18_2 := NB107_106.out
  have hns18_3 := NB108_106.out
  have hms18_0 := NB106_105.out
  have hms18_2 := NB106_107.out
  have hms18_3 := NB106_108.out
  have hs19 := c1_ BK106
  have hfs19 := fz_ BK106 1
  have hns19_0 := NB105_106.out
  have hns19_2 := NB107_106.out
  have hns19_3 := NB108_106.out
  have hms19_0 := NB106_105.out
  have hms19_2 := NB106_107.out
  have hms19_3 := NB106_108.out
  refine skip_ (w1 := ?_) (by rfl) rfl ?_ ?_
  rotate_left
  ·go_simp
   rfl
  refine hK.out _ _ ⟨((cell_far (p := ⟨gb106, _, none⟩) NB108_106.out _).trans (((cell_far (p := ⟨gb106, _, none⟩) NB108_106.out _).trans (hHeld.1)))), ((cell_far (p := ⟨gb106, _, none⟩) NB108_106.out _).trans (((cell_far (p := ⟨gb106, _, none⟩) NB108_106.out _).trans (hHeld.2))))⟩ (fun hHeld => ?_)
  clear hK K
  refine one_ (i := 9) (N := none) #[y_,y_,y_,y_,y_,y_,y_,y_,y_,y_] rfl rfl (one_of HT_.out (by kernel_rfl)) (by decide) (fun K hK => ?_)
  have hs20 := c0_ BK107
  have hfs20 := fz_ BK107 0
  have hns20_0 := NB105_107.out
  have hns20_1 := NB106_107.out
  have hns20_3 := NB108_107.out
  have hms20_0 := NB107_105.out
  have hms20_1 := NB107_106.out
  have hms20_3 := NB107_108.out
  have hs21 := c1_ BK107
  have hfs21 := fz_ BK107 1
  have hns21_0 := NB105_107.out
  have hns21_1 := NB106_107.out
  have hns21_3 := NB108_107.out
  have hms21_0 := NB107_105.out
  have hms21_1 := NB107_106.out
  have hms21_3 := NB107_108.out
  refine skip_ (w1 := ?_) (by rfl) rfl ?_ ?_
  rotate_left
  ·go_simp
   rfl
  refine hK.out _ _ ⟨((cell_far (p := ⟨gb107, _, none⟩) NB108_107.out _).trans (((cell_far (p := ⟨gb107, _, none⟩) NB108_107.out _).trans (hHeld.1)))), ((cell_far (p := ⟨gb107, _, none⟩) NB108_107.out _).trans (((cell_far (p := ⟨gb107, _, none⟩) NB108_107.out _).trans (hHeld.2))))⟩ (fun hHeld => ?_)
  clear hK K
  refine done_ (done_of HT_.out (by kernel_rfl)) ?_
  try go_wp2
  refine bodyPost_ret (results_cc rfl _ _ gb106 gb107 26 28 #[.int .u64 a0_0, .int .u64 (IntKind.u64.wrap (a0_0 + a0_1))] #[.int .i64 (wrap64 (a0_0)), .int .i64 (wrap64 (IntKind.u64.wrap (a0_0 + a0_1)))] (0, 0) (0, 0) _ _ rfl (by (with_reducible repeat (first | apply bN_ | apply bD_ | apply bA_)); refine blk_far ?_ NB106_107.out _; (with_reducible repeat (first | apply bN_ | apply bD_ | apply bA_)); refine blk_far ?_ NB106_107.out _; (with_reducible repeat (first | apply bN_ | apply bD_ | apply bA_)); refine blk_put (cs := #[.int .u64 a0_0, .int .u64 0]) ?_ 1 _ rfl; (with_reducible repeat (first | apply bN_ | apply bD_ | apply bA_)); refine blk_put (cs := #[.int .u64 0, .int .u64 0]) ?_ 0 _ rfl; exact bk_) Try.underlying26 rfl (by kernel_rfl) rfl (by (with_reducible repeat (first | apply bN_ | apply bD_ | apply bA_)); refine blk_put (cs := #[.int .i64 (wrap64 (a0_0)), .int .i64 0]) ?_ 1 _ rfl; (with_reducible repeat (first | apply bN_ | apply bD_ | apply bA_)); refine blk_put (cs := #[.int .i64 0, .int .i64 0]) ?_ 0 _ rfl; (with_reducible repeat (first | apply bN_ | apply bD_ | apply bA_)); refine blk_far ?_ NB107_106.out _; (with_reducible repeat (first | apply bN_ | apply bD_ | apply bA_)); refine blk_far ?_ NB107_106.out _; exact bk_) Try.underlying28 rfl (by kernel_rfl)) rfl ?_
  exact ⟨vv_, bz_⟩
 ·rw [if_neg c3] at H
  have c3b0 : decide (a0_1 < t109) = false := decide_eq_false c3
  clear c3
  replace H := Option.bind_eq_some_iff.mp H
  obtain ⟨t110, A220, H⟩ := H
  replace H : ((lockgateref04_top.f).bind fun t111 => (some (a0_0, IntKind.u64.wrap (a0_0 + a0_1), wrap64 (IntKind.u64.wrap (a0_0 + t110)), wrap64 (IntKind.u64.wrap (a0_0 + (IntKind.u64.wrap (a0_1 - t111))))))) = some (r1, r2, r3, r4) := H
  have A22 := Aside0.mk A220
  clear A220
  replace H := Option.bind_eq_some_iff.mp H
  obtain ⟨t111, A230, H⟩ := H
  replace H : (some (a0_0, IntKind.u64.wrap (a0_0 + a0_1), wrap64 (IntKind.u64.wrap (a0_0 + t110)), wrap64 (IntKind.u64.wrap (a0_0 + (IntKind.u64.wrap (a0_1 - t111)))))) = some (r1, r2, r3, r4) := H
  have A23 := Aside0.mk A230
  clear A230
  have hdd_ : t109 = t111 := (Option.some.inj (A2.out.symm.trans A23.out))
  subst hdd_
  simp only [Option.some.injEq, Prod.mk.injEq] at H
  obtain ⟨rfl, rfl, rfl, rfl⟩ := H
  go_enter Try.func13, Try.ntmps13
  try go_wp2_with (first | ((with_reducible refine gate_dst (N := 1) rfl ?_); refine bx_ 1 #[.int .u64 a0_0, .int .u64 a0_1] 24 ?_; intro gb105 hg w24 BK105 hb; have GW105 := bg_ hg; have GE105 := GW105; replace HB := bl_ hb; clear hb hg) | ((with_reducible refine gate_dst (N := 2) rfl ?_); refine bx_ 2 #[.int .u64 0, .int .u64 0] 26 ?_; intro gb106 hg w25 BK106 hb; have GW106 := bg_ hg; have GE106 := GW106; have NB105_106 := bm_ hg BK105; have NB106_105 := bn_ hg BK105; replace BK105 := bb_ hb BK105; replace HB := bl_ hb; clear hb hg) | ((with_reducible refine gate_dst (N := 3) rfl ?_); refine bx_ 3 #[.int .i64 0, .int .i64 0] 28 ?_; intro gb107 hg w26 BK107 hb; have GW107 := bg_ hg; have GE107 := GW107; have NB105_107 := bm_ hg BK105; have NB107_105 := bn_ hg BK105; have NB106_107 := bm_ hg BK106; have NB107_106 := bn_ hg BK106; replace BK105 := bb_ hb BK105; replace BK106 := bb_ hb BK106; replace HB := bl_ hb; clear hb hg; have hnb27 := NB105_106.out; have hnc27 := NB106_105.out; have hnb28 := NB105_107.out; have hnc28 := NB107_105.out; have hcz29_0 := c0_ BK105; have hcz29_1 := c1_ BK105; have hfz29_0 := fz_ BK105 0; have hfz29_1 := fz_ BK105 1) | ((with_reducible refine gate_dst (N := 4) rfl ?_); refine bx_ 4 #[.int .u64 0, .int .u64 0] 26 ?_; intro gb108 hg w30 BK108 hb; have GW108 := bg_ hg; have GE108 := GW108; have NB105_108 := bm_ hg BK105; have NB108_105 := bn_ hg BK105; have NB106_108 := bm_ hg BK106; have NB108_106 := bn_ hg BK106; have NB107_108 := bm_ hg BK107; have NB108_107 := bn_ hg BK107; replace BK105 := bb_ hb BK105; replace BK106 := bb_ hb BK106; replace BK107 := bb_ hb BK107; replace HB := bl_ hb; clear hb hg; have hnb31 := NB108_105.out; have hnc31 := NB105_108.out; have hnb32 := NB108_106.out; have hnc32 := NB106_108.out; have hnb33 := NB108_107.out; have hnc33 := NB107_108.out; have hcz34_0 := c0_ BK108; have hcz34_1 := c1_ BK108; have hfz34_0 := fz_ BK108 0; have hfz34_1 := fz_ BK108 1))
  have n0_ : Aside0 (((w30.setCell ⟨gb108, 0, none⟩ (.int .u64 a0_0)).setCell ⟨gb108, 1, none⟩ (.int .u64 (IntKind.u64.wrap (a0_0 + a0_1)))).heap[gb105]? = some (.cells #[.int .u64 a0_0, .int .u64 a0_1] 24 (0, 0))) := ⟨by (with_reducible repeat (first | apply bN_ | apply bD_ | apply bA_)); refine blk_far ?_ NB105_108.out _; (with_reducible repeat (first | apply bN_ | apply bD_ | apply bA_)); refine blk_far ?_ NB105_108.out _; exact bk_⟩
  have n1_ : Aside0 (((w30.setCell ⟨gb108, 0, none⟩ (.int .u64 a0_0)).setCell ⟨gb108, 1, none⟩ (.int .u64 (IntKind.u64.wrap (a0_0 + a0_1)))).heap[gb106]? = some (.cells #[.int .u64 0, .int .u64 0] 26 (0, 0))) := ⟨by (with_reducible repeat (first | apply bN_ | apply bD_ | apply bA_)); refine blk_far ?_ NB106_108.out _; (with_reducible repeat (first | apply bN_ | apply bD_ | apply bA_)); refine blk_far ?_ NB106_108.out _; exact bk_⟩
  have n2_ : Aside0 (((w30.setCell ⟨gb108, 0, none⟩ (.int .u64 a0_0)).setCell ⟨gb108, 1, none⟩ (.int .u64 (IntKind.u64.wrap (a0_0 + a0_1)))).heap[gb107]? = some (.cells #[.int .i64 0, .int .i64 0] 28 (0, 0))) := ⟨by (with_reducible repeat (first | apply bN_ | apply bD_ | apply bA_)); refine blk_far ?_ NB107_108.out _; (with_reducible repeat (first | apply bN_ | apply bD_ | apply bA_)); refine blk_far ?_ NB107_108.out _; exact bk_⟩
  have n3_ : Aside0 (((w30.setCell ⟨gb108, 0, none⟩ (.int .u64 a0_0)).setCell ⟨gb108, 1, none⟩ (.int .u64 (IntKind.u64.wrap (a0_0 + a0_1)))).heap[gb108]? = some (.cells #[.int .u64 a0_0, .int .u64 (IntKind.u64.wrap (a0_0 + a0_1))] 26 (0, 0))) := ⟨by (with_reducible repeat (first | apply bN_ | apply bD_ | apply bA_)); refine blk_put (cs := #[.int .u64 a0_0, .int .u64 0]) ?_ 1 _ rfl; (with_reducible repeat (first | apply bN_ | apply bD_ | apply bA_)); refine blk_put (cs := #[.int .u64 0, .int .u64 0]) ?_ 0 _ rfl; exact bk_⟩
  have n4_ : Aside0 (Below w.heap.size w ((w30.setCell ⟨gb108, 0, none⟩ (.int .u64 a0_0)).setCell ⟨gb108, 1, none⟩ (.int .u64 (IntKind.u64.wrap (a0_0 + a0_1))))) := ⟨by repeat (first | (with_reducible first | exact HB.out | apply lA_ | apply lN_ | apply lD_ | refine lS_ ?_ GE105.out | refine lS_ ?_ GE106.out | refine lS_ ?_ GE107.out | refine lS_ ?_ GE108.out) | exact HB.out)⟩
  (try clear BK105)
  (try clear BK106)
  (try clear BK107)
  (try clear BK108)
  (try clear HB)
  generalize ((w30.setCell ⟨gb108, 0, none⟩ (.int .u64 a0_0)).setCell ⟨gb108, 1, none⟩ (.int .u64 (IntKind.u64.wrap (a0_0 + a0_1)))) = w35 at n0_ n1_ n2_ n3_ n4_ ⊢
  have BK105 := n0_
  have BK106 := n1_
  have BK107 := n2_
  have BK108 := n3_
  have HB := n4_
  clear n0_ n1_ n2_ n3_ n4_
  replace BK105 := Aside0.mk (blk_drew BK105.out)
  replace BK106 := Aside0.mk (blk_drew BK106.out)
  replace BK107 := Aside0.mk (blk_drew BK107.out)
  replace BK108 := Aside0.mk (blk_drew BK108.out)
  replace HB := Aside0.mk (below_drew1 HB.out)
  refine start_ (n := 4) (S := fun w' => w'.cell? ⟨gb105, 0, none⟩ = some (.int .u64 a0_0) ∧ w'.cell? ⟨gb105, 1, none⟩ = some (.int .u64 a0_1)) (ds := []) #[n_,n_,n_,n_] (by kernel_rfl) rfl rfl ⟨c0_ BK105, c1_ BK105⟩ (fun hHeld => ?_)
  generalize w35.drew = w36 at BK105 BK106 BK107 BK108 HB hHeld ⊢
  refine pure_ (i := 0) (N := some 13) (v := ?_) (a' := ?_) #[y_,n_,n_,n_] rfl rfl (by kernel_rfl) (fun _ _ _ h => h) (Or.inl ⟨by rfl, ?_⟩) ?_ ?_
  rotate_left
  ·intro w'
   go_simp
   with_reducible rfl
  rotate_left
  ·simp only [Act.put, s1_, s2_, s3_, i64_w, i32_w]
   rfl
  refine take_ (i := 1) (N := some 14) (v := ?_) (a' := ?_) #[y_,y_,n_,n_] rfl rfl (by kernel_rfl) (fun _ _ _ h => h) (Or.inl ⟨by rfl, ?_⟩) hHeld ?_ ?_
  rotate_left
  ·rintro w' ⟨s0, s1⟩
   go_simp
   with_reducible rfl
  rotate_left
  ·simp only [Act.put, s1_, s2_, s3_, i64_w, i32_w]
   rfl
  refine one_ (i := 2) (N := some 15) #[y_,y_,y_,n_] rfl rfl (by kernel_rfl) (by decide) (fun K hK => ?_)
  refine goes_ Try.func75 (by kernel_rfl) rfl #[] (by rfl) rfl rfl (by (try simp only [List.map_toArray, List.map_cons, List.map_nil]); first | done | rfl) ?_
  with_reducible refine (lockgateref04_top.calls  t109 _ A2.out).mono ?_
  rintro e w' ⟨rfl, ⟨nd, rfl⟩⟩
  refine ⟨_, rfl, ?_⟩
  refine hK.out _ _ ⟨c0_ BK105, c1_ BK105⟩ (fun hHeld => ?_)
  clear hK K
  refine norm_ (a' := ?_) ?_ ?_
  rotate_left
  ·show Act.put _ (some 15) _ = _
   simp only [Act.put, s1_, s2_, s3_, i64_w, i32_w]
   rfl
  refine pure_ (i := 3) (N := some 16) (v := ?_) (a' := ?_) #[y_,y_,y_,y_] rfl rfl (by kernel_rfl) (fun _ _ _ h => h) (Or.inl ⟨by rfl, ?_⟩) ?_ ?_
  rotate_left
  ·intro w'
   go_simp
   with_reducible rfl
  rotate_left
  ·simp only [Act.put, s1_, s2_, s3_, i64_w, i32_w]
   rfl
  refine done_ (by kernel_rfl) ?_
  try go_wp2
  (try (rw [drewN_self w36]; generalize hq_ : World.drewN w36 _ = w36; have n0_ : Aside0 (w36.heap[gb105]? = some (.cells #[.int .u64 a0_0, .int .u64 a0_1] 24 (0, 0))) := ⟨by rw [← hq_]; exact (by exact bk_)⟩; have n1_ : Aside0 (w36.heap[gb106]? = some (.cells #[.int .u64 0, .int .u64 0] 26 (0, 0))) := ⟨by rw [← hq_]; exact (by exact bk_)⟩; have n2_ : Aside0 (w36.heap[gb107]? = some (.cells #[.int .i64 0, .int .i64 0] 28 (0, 0))) := ⟨by rw [← hq_]; exact (by exact bk_)⟩; have n3_ : Aside0 (w36.heap[gb108]? = some (.cells #[.int .u64 a0_0, .int .u64 (IntKind.u64.wrap (a0_0 + a0_1))] 26 (0, 0))) := ⟨by rw [← hq_]; exact (by exact bk_)⟩; have n4_ : Aside0 (Below w.heap.size w w36) := ⟨by rw [← hq_]; exact (by repeat (first | (with_reducible first | exact HB.out | apply lA_ | apply lN_ | apply lD_ | refine lS_ ?_ GE105.out | refine lS_ ?_ GE106.out | refine lS_ ?_ GE107.out | refine lS_ ?_ GE108.out) | exact HB.out))⟩; clear BK105 BK106 BK107 BK108 HB hq_; have BK105 := n0_; have BK106 := n1_; have BK107 := n2_; have BK108 := n3_; have HB := n4_; clear n0_ n1_ n2_ n3_ n4_))
  replace BK105 := Aside0.mk (blk_drew BK105.out)
  replace BK106 := Aside0.mk (blk_drew BK106.out)
  replace BK107 := Aside0.mk (blk_drew BK107.out)
  replace BK108 := Aside0.mk (blk_drew BK108.out)
  replace HB := Aside0.mk (below_drew1 HB.out)
  refine start_ (n := 17) (S := fun w' => w'.cell? ⟨gb108, 0, none⟩ = some (.int .u64 a0_0) ∧ w'.cell? ⟨gb108, 1, none⟩ = some (.int .u64 (IntKind.u64.wrap (a0_0 + a0_1))) ∧ w'.cell? ⟨gb105, 0, none⟩ = some (.int .u64 a0_0) ∧ w'.cell? ⟨gb105, 1, none⟩ = some (.int .u64 a0_1)) (ds := []) #[n_,n_,n_,n_,n_,n_,n_,n_,n_,n_,n_,n_,n_,n_,n_,n_,n_] (by kernel_rfl) rfl rfl ⟨c0_ BK108, c1_ BK108, c0_ BK105, c1_ BK105⟩ (fun hHeld => ?_); refine with_tabW lockgateref04_FromT.tab4 lockgateref04_FromT.bits4 (fun HT_ HW_ => ?_)
  generalize w36.drew = w37 at BK105 BK106 BK107 BK108 HB hHeld ⊢
  refine pq_ 1 26 #[n_,y_,n_,n_,n_,n_,n_,n_,n_,n_,n_,n_,n_,n_,n_,n_,n_] ?_
  refine pq_ 6 31 #[n_,y_,n_,n_,n_,n_,y_,n_,n_,n_,n_,n_,n_,n_,n_,n_,n_] ?_
  refine pq_ 8 33 #[n_,y_,n_,n_,n_,n_,y_,n_,y_,n_,n_,n_,n_,n_,n_,n_,n_] ?_
  refine tq1_ 0 25 #[y_,y_,n_,n_,n_,n_,y_,n_,y_,n_,n_,n_,n_,n_,n_,n_,n_] hHeld ?_
  refine tq1_ 2 27 #[y_,y_,y_,n_,n_,n_,y_,n_,y_,n_,n_,n_,n_,n_,n_,n_,n_] hHeld ?_
  refine tq1_ 7 32 #[y_,y_,y_,n_,n_,n_,y_,y_,y_,n_,n_,n_,n_,n_,n_,n_,n_] hHeld ?_
  refine tq1_ 9 34 #[y_,y_,y_,n_,n_,n_,y_,y_,y_,y_,n_,n_,n_,n_,n_,n_,n_] hHeld ?_
  refine one_ (i := 3) (N := some 28) #[y_,y_,y_,y_,n_,n_,y_,y_,y_,y_,n_,n_,n_,n_,n_,n_,n_] rfl rfl (one_of HT_.out (by kernel_rfl)) (by decide) (fun K hK => ?_)
  refine goes_ Try.func75 (by kernel_rfl) rfl #[] (by rfl) rfl rfl (by (try simp only [List.map_toArray, List.map_cons, List.map_nil]); first | done | rfl) ?_
  with_reducible refine (lockgateref04_top.calls  t110 _ A22.out).mono ?_
  rintro e w' ⟨rfl, ⟨nd, rfl⟩⟩
  refine ⟨_, rfl, ?_⟩
  refine hK.out _ _ ⟨c0_ BK108, c1_ BK108, c0_ BK105, c1_ BK105⟩ (fun hHeld => ?_)
  clear hK K
  refine norm_ (a' := ?_) ?_ ?_
  rotate_left
  ·show Act.put _ (some 28) _ = _
   simp only [Act.put, s1_, s2_, s3_, i64_w, i32_w]
   rfl
  refine pq_ 4 29 #[y_,y_,y_,y_,y_,n_,y_,y_,y_,y_,n_,n_,n_,n_,n_,n_,n_] ?_
  refine pq_ 5 30 #[y_,y_,y_,y_,y_,y_,y_,y_,y_,y_,n_,n_,n_,n_,n_,n_,n_] ?_
  refine one_ (i := 10) (N := some 35) #[y_,y_,y_,y_,y_,y_,y_,y_,y_,y_,y_,n_,n_,n_,n_,n_,n_] rfl rfl (one_of HT_.out (by kernel_rfl)) (by decide) (fun K hK => ?_)
  refine goes_ Try.func75 (by kernel_rfl) rfl #[] (by rfl) rfl rfl (by (try simp only [List.map_toArray, List.map_cons, List.map_nil]); first | done | rfl) ?_
  with_reducible refine (lockgateref04_top.calls  t109 _ A23.out).mono ?_
  rintro e w' ⟨rfl, ⟨nd, rfl⟩⟩
  refine ⟨_, rfl, ?_⟩
  refine hK.out _ _ ⟨c0_ BK108, c1_ BK108, c0_ BK105, c1_ BK105⟩ (fun hHeld => ?_)
  clear hK K
  refine norm_ (a' := ?_) ?_ ?_
  rotate_left
  ·show Act.put _ (some 35) _ = _
   simp only [Act.put, s1_, s2_, s3_, i64_w, i32_w]
   rfl
  refine pq_ 11 36 #[y_,y_,y_,y_,y_,y_,y_,y_,y_,y_,y_,y_,n_,n_,n_,n_,n_] ?_
  refine pq_ 12 37 #[y_,y_,y_,y_,y_,y_,y_,y_,y_,y_,y_,y_,y_,n_,n_,n_,n_] ?_
  refine pq_ 13 38 #[y_,y_,y_,y_,y_,y_,y_,y_,y_,y_,y_,y_,y_,y_,n_,n_,n_] ?_
  refine pq_ 14 39 #[y_,y_,y_,y_,y_,y_,y_,y_,y_,y_,y_,y_,y_,y_,y_,n_,n_] ?_
  refine one_ (i := 15) (N := none) #[y_,y_,y_,y_,y_,y_,y_,y_,y_,y_,y_,y_,y_,y_,y_,y_,n_] rfl rfl (one_of HT_.out (by kernel_rfl)) (by decide) (fun K hK => ?_)
  have hs38 := c0_ BK106
  have hfs38 := fz_ BK106 0
  have hns38_0 := NB105_106.out
  have hns38_2 := NB107_106.out
  have hns38_3 := NB108_106.out
  have hms38_0 := NB106_105.out
  have hms38_2 := NB106_107.out
  have hms38_3 := NB106_108.out
  have hs39 := c1_ BK106
  have hfs39 := fz_ BK106 1
  have hns39_0 := NB105_106.out
  have hns39_2 := NB107_106.out
  have hns39_3 := NB108_106.out
  have hms39_0 := NB106_105.out
  have hms39_2 := NB106_107.out
  have hms39_3 := NB106_108.out
  refine skip_ (w1 := ?_) (by rfl) rfl ?_ ?_
  rotate_left
  ·go_simp
   rfl
  refine hK.out _ _ ⟨((cell_far (p := ⟨gb106, _, none⟩) NB108_106.out _).trans (((cell_far (p := ⟨gb106, _, none⟩) NB108_106.out _).trans (hHeld.1)))), ((cell_far (p := ⟨gb106, _, none⟩) NB108_106.out _).trans (((cell_far (p := ⟨gb106, _, none⟩) NB108_106.out _).trans (hHeld.2.1)))), ((cell_far (p := ⟨gb106, _, none⟩) NB105_106.out _).trans (((cell_far (p := ⟨gb106, _, none⟩) NB105_106.out _).trans (hHeld.2.2.1)))), ((cell_far (p := ⟨gb106, _, none⟩) NB105_106.out _).trans (((cell_far (p := ⟨gb106, _, none⟩) NB105_106.out _).trans (hHeld.2.2.2))))⟩ (fun hHeld => ?_)
  clear hK K
  refine one_ (i := 16) (N := none) #[y_,y_,y_,y_,y_,y_,y_,y_,y_,y_,y_,y_,y_,y_,y_,y_,y_] rfl rfl (one_of HT_.out (by kernel_rfl)) (by decide) (fun K hK => ?_)
  have hs40 := c0_ BK107
  have hfs40 := fz_ BK107 0
  have hns40_0 := NB105_107.out
  have hns40_1 := NB106_107.out
  have hns40_3 := NB108_107.out
  have hms40_0 := NB107_105.out
  have hms40_1 := NB107_106.out
  have hms40_3 := NB107_108.out
  have hs41 := c1_ BK107
  have hfs41 := fz_ BK107 1
  have hns41_0 := NB105_107.out
  have hns41_1 := NB106_107.out
  have hns41_3 := NB108_107.out
  have hms41_0 := NB107_105.out
  have hms41_1 := NB107_106.out
  have hms41_3 := NB107_108.out
  refine skip_ (w1 := ?_) (by rfl) rfl ?_ ?_
  rotate_left
  ·go_simp
   rfl
  refine hK.out _ _ ⟨((cell_far (p := ⟨gb107, _, none⟩) NB108_107.out _).trans (((cell_far (p := ⟨gb107, _, none⟩) NB108_107.out _).trans (hHeld.1)))), ((cell_far (p := ⟨gb107, _, none⟩) NB108_107.out _).trans (((cell_far (p := ⟨gb107, _, none⟩) NB108_107.out _).trans (hHeld.2.1)))), ((cell_far (p := ⟨gb107, _, none⟩) NB105_107.out _).trans (((cell_far (p := ⟨gb107, _, none⟩) NB105_107.out _).trans (hHeld.2.2.1)))), ((cell_far (p := ⟨gb107, _, none⟩) NB105_107.out _).trans (((cell_far (p := ⟨gb107, _, none⟩) NB105_107.out _).trans (hHeld.2.2.2))))⟩ (fun hHeld => ?_)
  clear hK K
  refine done_ (done_of HT_.out (by kernel_rfl)) ?_
  try go_wp2
  refine bodyPost_ret (results_cc rfl _ _ gb106 gb107 26 28 #[.int .u64 a0_0, .int .u64 (IntKind.u64.wrap (a0_0 + a0_1))] #[.int .i64 (wrap64 (IntKind.u64.wrap (a0_0 + t110))), .int .i64 (wrap64 (IntKind.u64.wrap (a0_0 + (IntKind.u64.wrap (a0_1 - t109)))))] (0, 0) (0, 0) _ _ rfl (by (with_reducible repeat (first | apply bN_ | apply bD_ | apply bA_)); refine blk_far ?_ NB106_107.out _; (with_reducible repeat (first | apply bN_ | apply bD_ | apply bA_)); refine blk_far ?_ NB106_107.out _; (with_reducible repeat (first | apply bN_ | apply bD_ | apply bA_)); refine blk_put (cs := #[.int .u64 a0_0, .int .u64 0]) ?_ 1 _ rfl; (with_reducible repeat (first | apply bN_ | apply bD_ | apply bA_)); refine blk_put (cs := #[.int .u64 0, .int .u64 0]) ?_ 0 _ rfl; exact bk_) Try.underlying26 rfl (by kernel_rfl) rfl (by (with_reducible repeat (first | apply bN_ | apply bD_ | apply bA_)); refine blk_put (cs := #[.int .i64 (wrap64 (IntKind.u64.wrap (a0_0 + t110))), .int .i64 0]) ?_ 1 _ rfl; (with_reducible repeat (first | apply bN_ | apply bD_ | apply bA_)); refine blk_put (cs := #[.int .i64 0, .int .i64 0]) ?_ 0 _ rfl; (with_reducible repeat (first | apply bN_ | apply bD_ | apply bA_)); refine blk_far ?_ NB107_106.out _; (with_reducible repeat (first | apply bN_ | apply bD_ | apply bA_)); refine blk_far ?_ NB107_106.out _; exact bk_) Try.underlying28 rfl (by kernel_rfl)) rfl ?_
  exact ⟨vv_, bz_⟩

end Go.Proofs.Ytnephcecobocdaa.PA
