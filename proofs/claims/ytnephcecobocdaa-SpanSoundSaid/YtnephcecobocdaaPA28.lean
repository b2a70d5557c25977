-- PRINTED by print.py (a twelfth state) out of the translation. Not trusted: Lean checks it.
import Derived.Test.YtnephcecobocdaaWTab
import Derived.Test.YtnephcecobocdaaPA0
import Derived.Test.YtnephcecobocdaaSq
namespace Go.Proofs.Ytnephcecobocdaa.PA
open Go.RowKit Go.Proofs.YtnephcecobocdaaW.PrintWords Go.Proofs.YtnephcecobocdaaW.PrintLast Go.Proofs.YtnephcecobocdaaW.PrintMore
attribute [local go_sem] max2_int min2_int max_two min_two max_three min_three max_four min_four   -- for this text's walks alone
set_option linter.unusedVariables false
set_option linter.unusedSimpArgs false

/-! ### lockgatelaw04_Us: function 23 -/
def lockgatelaw04_Us.f (a0_0 : Int) (a0_1 : Int) (a1_0 : Int) (a1_1 : Int) : Option (Int × Int × Int × Int) := some (mn a0_0 a0_1, mx a0_0 a0_1, mn a1_0 a1_1, mx a1_0 a1_1)
def lockgatelaw04_Us.T1 : Bool × List (List Nat × List Nat) := (true, [([], []), ([0], [0]), ([], []), ([2], [2]), ([1, 3], [1, 3]), ([], []), ([5], [5]), ([], []), ([7], [7]), ([6, 8], [6, 8]), ([4, 9], [4, 9]), ([], []), ([11], [11]), ([], []), ([13], [13]), ([12, 14], [12, 14]), ([], []), ([16], [16]), ([], []), ([18], [18]), ([17, 19], [17, 19]), ([15, 20], [15, 20]), ([10, 0, 1, 2, 3, 4, 5, 6, 7, 8, 9, 10], [10]), ([21, 22, 0, 1, 2, 3, 4, 5, 6, 7, 8, 9, 10, 11, 12, 13, 14, 15, 16, 17, 18, 19, 20, 21, 22], [21])])
def lockgatelaw04_Us.B1 : List Nat := [0, 1, 0, 4, 15, 0, 32, 0, 128, 480, 1023, 0, 2048, 0, 8192, 30720, 0, 65536, 0, 262144, 983040, 2095104, 2047, 8388607]
theorem lockgatelaw04_Us.tab1 : rtab .any (opsOf Try.f23 1) = lockgatelaw04_Us.T1 := by kernel_rfl
theorem lockgatelaw04_Us.bits1 : waitsOk lockgatelaw04_Us.T1.2 lockgatelaw04_Us.B1 = true := by kernel_rfl
set_option maxHeartbeats 8000000 in
set_option maxRecDepth 100000 in
theorem lockgatelaw04_Us.calls (a0_0 : Int) (a0_1 : Int) (a1_0 : Int) (a1_1 : Int) (r1 : Int) (r2 : Int) (r3 : Int) (r4 : Int) (w : World) (h : lockgatelaw04_Us.f a0_0 a0_1 a1_0 a1_1 = some (r1, r2, r3, r4)) :
 Calls Try.prog 23 #[.agg #[.int .u64 a0_0, .int .u64 a0_1], .agg #[.int .u64 a1_0, .int .u64 a1_1]] w fun e w' => e = .returned (.tuple #[.agg #[.int .u64 r1, .int .u64 r2], .agg #[.int .u64 r3, .int .u64 r4]]) ∧ Below w.heap.size w w' := by
 have hu26 := Try.underlying26
 have HB := Aside0.mk (Below.refl w.heap.size w)
 have H : (some (mn a0_0 a0_1, mx a0_0 a0_1, mn a1_0 a1_1, mx a1_0 a1_1)) = some (r1, r2, r3, r4) := h
 clear h
 obtain ⟨ji3, hji3⟩ : ∃ j_ : Int, (mn a0_0 a0_1) = j_ := ⟨_, rfl⟩
 replace H : (some (ji3, mx a0_0 a0_1, mn a1_0 a1_1, mx a1_0 a1_1)) = some (r1, r2, r3, r4) := by first | (rw [hji3] at H; exact H) | (simp only [hji3] at H ⊢; exact H)
 have hji3_ : (if a0_1 < a0_0 then a0_1 else a0_0) = ji3 := hji3
 obtain ⟨ji4, hji4⟩ : ∃ j_ : Int, (mx a0_0 a0_1) = j_ := ⟨_, rfl⟩
 replace H : (some (ji3, ji4, mn a1_0 a1_1, mx a1_0 a1_1)) = some (r1, r2, r3, r4) := by first | (rw [hji4] at H; exact H) | (simp only [hji4] at H ⊢; exact H)
 have hji4_ : (if a0_0 < a0_1 then a0_1 else a0_0) = ji4 := hji4
 obtain ⟨ji5, hji5⟩ : ∃ j_ : Int, (mn a1_0 a1_1) = j_ := ⟨_, rfl⟩
 replace H : (some (ji3, ji4, ji5, mx a1_0 a1_1)) = some (r1, r2, r3, r4) := by first | (rw [hji5] at H; exact H) | (simp only [hji5] at H ⊢; exact H)
 have hji5_ : (if a1_1 < a1_0 then a1_1 else a1_0) = ji5 := hji5
 obtain ⟨ji6, hji6⟩ : ∃ j_ : Int, (mx a1_0 a1_1) = j_ := ⟨_, rfl⟩
 replace H : (some (ji3, ji4, ji5, ji6)) = some (r1, r2, r3, r4) := by first | (rw [hji6] at H; exact H) | (simp only [hji6] at H ⊢; exact H)
 have hji6_ : (if a1_0 < a1_1 then a1_1 else a1_0) = ji6 := hji6
 simp only [Option.some.injEq, Prod.mk.injEq] at H
 obtain ⟨rfl, rfl, rfl, rfl⟩ := H
 go_enter Try.func23, Try.ntmps23
 try go_wp2_with (first | ((with_reducible refine gate_dst (N := 2) rfl ?_); refine bx_ 2 #[.int .u64 a0_0, .int .u64 a0_1] 26 ?_; intro gb239 hg w7 BK239 hb; have GW239 := bg_ hg; have GE239 := GW239; replace HB := bl_ hb; clear hb hg) | ((with_reducible refine gate_dst (N := 3) rfl ?_); refine bx_ 3 #[.int .u64 a1_0, .int .u64 a1_1] 26 ?_; intro gb240 hg w8 BK240 hb; have GW240 := bg_ hg; have GE240 := GW240; have NB239_240 := bm_ hg BK239; have NB240_239 := bn_ hg BK239; replace BK239 := bb_ hb BK239; replace HB := bl_ hb; clear hb hg) | ((with_reducible refine gate_dst (N := 4) rfl ?_); refine bx_ 4 #[.int .u64 0, .int .u64 0] 26 ?_; intro gb241 hg w9 BK241 hb; have GW241 := bg_ hg; have GE241 := GW241; have NB239_241 := bm_ hg BK239; have NB241_239 := bn_ hg BK239; have NB240_241 := bm_ hg BK240; have NB241_240 := bn_ hg BK240; replace BK239 := bb_ hb BK239; replace BK240 := bb_ hb BK240; replace HB := bl_ hb; clear hb hg) | ((with_reducible refine gate_dst (N := 5) rfl ?_); refine bx_ 5 #[.int .u64 0, .int .u64 0] 26 ?_; intro gb242 hg w10 BK242 hb; have GW242 := bg_ hg; have GE242 := GW242; have NB239_242 := bm_ hg BK239; have NB242_239 := bn_ hg BK239; have NB240_242 := bm_ hg BK240; have NB242_240 := bn_ hg BK240; have NB241_242 := bm_ hg BK241; have NB242_241 := bn_ hg BK241; replace BK239 := bb_ hb BK239; replace BK240 := bb_ hb BK240; replace BK241 := bb_ hb BK241; replace HB := bl_ hb; clear hb hg))
 replace BK239 := Aside0.mk (blk_drew BK239.out)
 replace BK240 := Aside0.mk (blk_drew BK240.out)
 replace BK241 := Aside0.mk (blk_drew BK241.out)
 replace BK242 := Aside0.mk (blk_drew BK242.out)
 replace HB := Aside0.mk (below_drew1 HB.out)
 refine start_ (n := 24) (S := fun w' => w'.cell? ⟨gb239, 0, none⟩ = some (.int .u64 a0_0) ∧ w'.cell? ⟨gb239, 1, none⟩ = some (.int .u64 a0_1) ∧ w'.cell? ⟨gb240, 0, none⟩ = some (.int .u64 a1_0) ∧ w'.cell? ⟨gb240, 1, none⟩ = some (.int .u64 a1_1)) (ds := []) #[n_,n_,n_,n_,n_,n_,n_,n_,n_,n_,n_,n_,n_,n_,n_,n_,n_,n_,n_,n_,n_,n_,n_,n_] (by kernel_rfl) rfl rfl ⟨c0_ BK239, c1_ BK239, c0_ BK240, c1_ BK240⟩ (fun hHeld => ?_); refine with_tabW lockgatelaw04_Us.tab1 lockgatelaw04_Us.bits1 (fun HT_ HW_ => ?_)
 generalize w10.drew = w11 at BK239 BK240 BK241 BK242 HB hHeld ⊢
 refine pq_ 0 6 #[y_,n_,n_,n_,n_,n_,n_,n_,n_,n_,n_,n_,n_,n_,n_,n_,n_,n_,n_,n_,n_,n_,n_,n_] ?_
 refine pq_ 2 8 #[y_,n_,y_,n_,n_,n_,n_,n_,n_,n_,n_,n_,n_,n_,n_,n_,n_,n_,n_,n_,n_,n_,n_,n_] ?_
 refine pq_ 5 11 #[y_,n_,y_,n_,n_,y_,n_,n_,n_,n_,n_,n_,n_,n_,n_,n_,n_,n_,n_,n_,n_,n_,n_,n_] ?_
 refine pq_ 7 13 #[y_,n_,y_,n_,n_,y_,n_,y_,n_,n_,n_,n_,n_,n_,n_,n_,n_,n_,n_,n_,n_,n_,n_,n_] ?_
 refine pq_ 11 17 #[y_,n_,y_,n_,n_,y_,n_,y_,n_,n_,n_,y_,n_,n_,n_,n_,n_,n_,n_,n_,n_,n_,n_,n_] ?_
 refine pq_ 13 19 #[y_,n_,y_,n_,n_,y_,n_,y_,n_,n_,n_,y_,n_,y_,n_,n_,n_,n_,n_,n_,n_,n_,n_,n_] ?_
 refine pq_ 16 22 #[y_,n_,y_,n_,n_,y_,n_,y_,n_,n_,n_,y_,n_,y_,n_,n_,y_,n_,n_,n_,n_,n_,n_,n_] ?_
 refine pq_ 18 24 #[y_,n_,y_,n_,n_,y_,n_,y_,n_,n_,n_,y_,n_,y_,n_,n_,y_,n_,y_,n_,n_,n_,n_,n_] ?_
 refine tq1_ 1 7 #[y_,y_,y_,n_,n_,y_,n_,y_,n_,n_,n_,y_,n_,y_,n_,n_,y_,n_,y_,n_,n_,n_,n_,n_] hHeld ?_
 refine tq1_ 3 9 #[y_,y_,y_,y_,n_,y_,n_,y_,n_,n_,n_,y_,n_,y_,n_,n_,y_,n_,y_,n_,n_,n_,n_,n_] hHeld ?_
 refine pq_ 4 10 #[y_,y_,y_,y_,y_,y_,n_,y_,n_,n_,n_,y_,n_,y_,n_,n_,y_,n_,y_,n_,n_,n_,n_,n_] ?_
 refine tq1_ 6 12 #[y_,y_,y_,y_,y_,y_,y_,y_,n_,n_,n_,y_,n_,y_,n_,n_,y_,n_,y_,n_,n_,n_,n_,n_] hHeld ?_
 refine tq1_ 8 14 #[y_,y_,y_,y_,y_,y_,y_,y_,y_,n_,n_,y_,n_,y_,n_,n_,y_,n_,y_,n_,n_,n_,n_,n_] hHeld ?_
 refine pq_ 9 15 #[y_,y_,y_,y_,y_,y_,y_,y_,y_,y_,n_,y_,n_,y_,n_,n_,y_,n_,y_,n_,n_,n_,n_,n_] ?_
 refine pq_ 10 16 #[y_,y_,y_,y_,y_,y_,y_,y_,y_,y_,y_,y_,n_,y_,n_,n_,y_,n_,y_,n_,n_,n_,n_,n_] ?_
 refine tq1_ 12 18 #[y_,y_,y_,y_,y_,y_,y_,y_,y_,y_,y_,y_,y_,y_,n_,n_,y_,n_,y_,n_,n_,n_,n_,n_] hHeld ?_
 refine tq1_ 14 20 #[y_,y_,y_,y_,y_,y_,y_,y_,y_,y_,y_,y_,y_,y_,y_,n_,y_,n_,y_,n_,n_,n_,n_,n_] hHeld ?_
 refine pq_ 15 21 #[y_,y_,y_,y_,y_,y_,y_,y_,y_,y_,y_,y_,y_,y_,y_,y_,y_,n_,y_,n_,n_,n_,n_,n_] ?_
 refine tq1_ 17 23 #[y_,y_,y_,y_,y_,y_,y_,y_,y_,y_,y_,y_,y_,y_,y_,y_,y_,y_,y_,n_,n_,n_,n_,n_] hHeld ?_
 refine tq1_ 19 25 #[y_,y_,y_,y_,y_,y_,y_,y_,y_,y_,y_,y_,y_,y_,y_,y_,y_,y_,y_,y_,n_,n_,n_,n_] hHeld ?_
 refine pq_ 20 26 #[y_,y_,y_,y_,y_,y_,y_,y_,y_,y_,y_,y_,y_,y_,y_,y_,y_,y_,y_,y_,y_,n_,n_,n_] ?_
 refine pq_ 21 27 #[y_,y_,y_,y_,y_,y_,y_,y_,y_,y_,y_,y_,y_,y_,y_,y_,y_,y_,y_,y_,y_,y_,n_,n_] ?_
 refine one_ (i := 22) (N := none) #[y_,y_,y_,y_,y_,y_,y_,y_,y_,y_,y_,y_,y_,y_,y_,y_,y_,y_,y_,y_,y_,y_,y_,n_] rfl rfl (one_of HT_.out (by kernel_rfl)) (by decide) (fun K hK => ?_)
 have hs12 := c0_ BK241
 have hfs12 := fz_ BK241 0
 have hns12_0 := NB239_241.out
 have hns12_1 := NB240_241.out
 have hns12_3 := NB242_241.out
 have hms12_0 := NB241_239.out
 have hms12_1 := NB241_240.out
 have hms12_3 := NB241_242.out
 have hs13 := c1_ BK241
 have hfs13 := fz_ BK241 1
 have hns13_0 := NB239_241.out
 have hns13_1 := NB240_241.out
 have hns13_3 := NB242_241.out
 have hms13_0 := NB241_239.out
 have hms13_1 := NB241_240.out
 have hms13_3 := NB241_242.out
 refine skip_ (w1 := ?_) (by rfl) rfl ?_ ?_
 rotate_left
 ·go_simp
  rfl
 refine hK.out _ _ ⟨((cell_far (p := ⟨gb241, _, none⟩) NB239_241.out _).trans (((cell_far (p := ⟨gb241, _, none⟩) NB239_241.out _).trans (hHeld.1)))), ((cell_far (p := ⟨gb241, _, none⟩) NB239_241.out _).trans (((cell_far (p := ⟨gb241, _, none⟩) NB239_241.out _).trans (hHeld.2.1)))), ((cell_far (p := ⟨gb241, _, none⟩) NB240_241.out _).trans (((cell_far (p := ⟨gb241, _, none⟩) NB240_241.out _).trans (hHeld.2.2.1)))), ((cell_far (p := ⟨gb241, _, none⟩) NB240_241.out _).trans (((cell_far (p := ⟨gb241, _, none⟩) NB240_241.out _).trans (hHeld.2.2.2))))⟩ (fun hHeld => ?_)
 clear hK K
 refine one_ (i := 23) (N := none) #[y_,y_,y_,y_,y_,y_,y_,y_,y_,y_,y_,y_,y_,y_,y_,y_,y_,y_,y_,y_,y_,y_,y_,y_] rfl rfl (one_of HT_.out (by kernel_rfl)) (by decide) (fun K hK => ?_)
 have hs14 := c0_ BK242
 have hfs14 := fz_ BK242 0
 have hns14_0 := NB239_242.out
 have hns14_1 := NB240_242.out
 have hns14_2 := NB241_242.out
 have hms14_0 := NB242_239.out
 have hms14_1 := NB242_240.out
 have hms14_2 := NB242_241.out
 have hs15 := c1_ BK242
 have hfs15 := fz_ BK242 1
 have hns15_0 := NB239_242.out
 have hns15_1 := NB240_242.out
 have hns15_2 := NB241_242.out
 have hms15_0 := NB242_239.out
 have hms15_1 := NB242_240.out
 have hms15_2 := NB242_241.out
 refine skip_ (w1 := ?_) (by rfl) rfl ?_ ?_
 rotate_left
 ·go_simp
  rfl
 refine hK.out _ _ ⟨((cell_far (p := ⟨gb242, _, none⟩) NB239_242.out _).trans (((cell_far (p := ⟨gb242, _, none⟩) NB239_242.out _).trans (hHeld.1)))), ((cell_far (p := ⟨gb242, _, none⟩) NB239_242.out _).trans (((cell_far (p := ⟨gb242, _, none⟩) NB239_242.out _).trans (hHeld.2.1)))), ((cell_far (p := ⟨gb242, _, none⟩) NB240_242.out _).trans (((cell_far (p := ⟨gb242, _, none⟩) NB240_242.out _).trans (hHeld.2.2.1)))), ((cell_far (p := ⟨gb242, _, none⟩) NB240_242.out _).trans (((cell_far (p := ⟨gb242, _, none⟩) NB240_242.out _).trans (hHeld.2.2.2))))⟩ (fun hHeld => ?_)
 clear hK K
 refine done_ (done_of HT_.out (by kernel_rfl)) ?_
 try go_wp2
 refine bodyPost_ret (results_cc rfl _ _ gb241 gb242 26 26 #[.int .u64 ji3, .int .u64 ji4] #[.int .u64 ji5, .int .u64 ji6] (0, 0) (0, 0) _ _ rfl (by (with_reducible repeat (first | apply bN_ | apply bD_ | apply bA_)); refine blk_far ?_ NB241_242.out _; (with_reducible repeat (first | apply bN_ | apply bD_ | apply bA_)); refine blk_far ?_ NB241_242.out _; (with_reducible repeat (first | apply bN_ | apply bD_ | apply bA_)); refine blk_put (cs := #[.int .u64 ji3, .int .u64 0]) ?_ 1 _ rfl; (with_reducible repeat (first | apply bN_ | apply bD_ | apply bA_)); refine blk_put (cs := #[.int .u64 0, .int .u64 0]) ?_ 0 _ rfl; exact bk_) Try.underlying26 rfl (by kernel_rfl) rfl (by (with_reducible repeat (first | apply bN_ | apply bD_ | apply bA_)); refine blk_put (cs := #[.int .u64 ji5, .int .u64 0]) ?_ 1 _ rfl; (with_reducible repeat (first | apply bN_ | apply bD_ | apply bA_)); refine blk_put (cs := #[.int .u64 0, .int .u64 0]) ?_ 0 _ rfl; (with_reducible repeat (first | apply bN_ | apply bD_ | apply bA_)); refine blk_far ?_ NB242_241.out _; (with_reducible repeat (first | apply bN_ | apply bD_ | apply bA_)); refine blk_far ?_ NB242_241.out _; exact bk_) Try.underlying26 rfl (by kernel_rfl)) rfl ?_
 exact ⟨by first | rfl | (simp [errW_none, errW_some] <;> rfl) | (simp only [← hji3, ← hji4, ← hji5, ← hji6]; first | rfl | (simp [errW_none, errW_some] <;> rfl)) | (simp [*, errW_none, errW_some] <;> rfl), bz_⟩

/-! ### lockgatelaw04_of: function 53 -/
def lockgatelaw04_of.f (a0_0 : Int) (a0_1 : Int) (a1 : Int) : Option (Int) := if (IntKind.u64.wrap ((IntKind.u64.wrap (a0_1 - a0_0)) + 1)) = 0 then (some a1) else (some (IntKind.u64.wrap (a0_0 + (Int.tmod a1 (IntKind.u64.wrap ((IntKind.u64.wrap (a0_1 - a0_0)) + 1))))))
set_option maxHeartbeats 8000000 in
set_option maxRecDepth 100000 in
theorem lockgatelaw04_of.calls (a0_0 : Int) (a0_1 : Int) (a1 : Int) (r : Int) (w : World) (h : lockgatelaw04_of.f a0_0 a0_1 a1 = some r) :
 Calls Try.prog 53 #[.agg #[.int .u64 a0_0, .int .u64 a0_1], .int .u64 a1] w fun e w' => e = .returned (.int .u64 r) ∧ Below w.heap.size w w' := by
 have hu26 := Try.underlying26
 have HB := Aside0.mk (Below.refl w.heap.size w)
 have H : (if (IntKind.u64.wrap ((IntKind.u64.wrap (a0_1 - a0_0)) + 1)) = 0 then (some a1) else (some (IntKind.u64.wrap (a0_0 + (Int.tmod a1 (IntKind.u64.wrap ((IntKind.u64.wrap (a0_1 - a0_0)) + 1))))))) = some r := h
 clear h
 by_cases c3 : (IntKind.u64.wrap ((IntKind.u64.wrap (a0_1 - a0_0)) + 1)) = 0
 ·rw [if_pos c3] at H
  have c3b0 : ((IntKind.u64.wrap ((IntKind.u64.wrap (a0_1 - a0_0)) + 1)) == 0) = true := beq_iff_eq.mpr c3
  have c3b1 : ((IntKind.u64.wrap ((IntKind.u64.wrap (a0_1 - a0_0)) + 1)) != 0) = false := bne_eq_false_iff_eq.mpr c3
  clear c3
  obtain rfl := Option.some.inj H
  go_enter Try.func53, Try.ntmps53
  go_wp2_with (first | ((with_reducible refine gate_dst (N := 2) rfl ?_); refine bx_ 2 #[.int .u64 a0_0, .int .u64 a0_1] 26 ?_; intro gb566 hg w4 BK566 hb; have GW566 := bg_ hg; have GE566 := GW566; replace HB := bl_ hb; clear hb hg; have hcqgb566_0 := c0_ BK566; have hfqgb566_0 := fz_ BK566 0; have hcqgb566_1 := c1_ BK566; have hfqgb566_1 := fz_ BK566 1; have hcz5_0 := c0_ BK566; have hcz5_1 := c1_ BK566; have hfz5_0 := fz_ BK566 0; have hfz5_1 := fz_ BK566 1))
  repeat (go_quiet (first | ((with_reducible refine gate_dst (N := 2) rfl ?_); refine bx_ 2 #[.int .u64 a0_0, .int .u64 a0_1] 26 ?_; intro gb566 hg w4 BK566 hb; have GW566 := bg_ hg; have GE566 := GW566; replace HB := bl_ hb; clear hb hg; have hcqgb566_0 := c0_ BK566; have hfqgb566_0 := fz_ BK566 0; have hcqgb566_1 := c1_ BK566; have hfqgb566_1 := fz_ BK566 1; have hcz5_0 := c0_ BK566; have hcz5_1 := c1_ BK566; have hfz5_0 := fz_ BK566 0; have hfz5_1 := fz_ BK566 1)); try go_wp2_with (first | ((with_reducible refine gate_dst (N := 2) rfl ?_); refine bx_ 2 #[.int .u64 a0_0, .int .u64 a0_1] 26 ?_; intro gb566 hg w4 BK566 hb; have GW566 := bg_ hg; have GE566 := GW566; replace HB := bl_ hb; clear hb hg; have hcqgb566_0 := c0_ BK566; have hfqgb566_0 := fz_ BK566 0; have hcqgb566_1 := c1_ BK566; have hfqgb566_1 := fz_ BK566 1; have hcz5_0 := c0_ BK566; have hcz5_1 := c1_ BK566; have hfz5_0 := fz_ BK566 0; have hfz5_1 := fz_ BK566 1)))
  go_ret
  exact ⟨vv_, bz_⟩
 ·rw [if_neg c3] at H
  have c3b0 : ((IntKind.u64.wrap ((IntKind.u64.wrap (a0_1 - a0_0)) + 1)) == 0) = false := beq_eq_false_iff_ne.mpr c3
  have c3b1 : ((IntKind.u64.wrap ((IntKind.u64.wrap (a0_1 - a0_0)) + 1)) != 0) = true := bne_iff_ne.mpr c3
  obtain rfl := Option.some.inj H
  go_enter Try.func53, Try.ntmps53
  go_wp2_with (first | ((with_reducible refine gate_dst (N := 2) rfl ?_); refine bx_ 2 #[.int .u64 a0_0, .int .u64 a0_1] 26 ?_; intro gb566 hg w6 BK566 hb; have GW566 := bg_ hg; have GE566 := GW566; replace HB := bl_ hb; clear hb hg; have hcqgb566_0 := c0_ BK566; have hfqgb566_0 := fz_ BK566 0; have hcqgb566_1 := c1_ BK566; have hfqgb566_1 := fz_ BK566 1; have hcz7_0 := c0_ BK566; have hcz7_1 := c1_ BK566; have hfz7_0 := fz_ BK566 0; have hfz7_1 := fz_ BK566 1))
  repeat (go_quiet (first | ((with_reducible refine gate_dst (N := 2) rfl ?_); refine bx_ 2 #[.int .u64 a0_0, .int .u64 a0_1] 26 ?_; intro gb566 hg w6 BK566 hb; have GW566 := bg_ hg; have GE566 := GW566; replace HB := bl_ hb; clear hb hg; have hcqgb566_0 := c0_ BK566; have hfqgb566_0 := fz_ BK566 0; have hcqgb566_1 := c1_ BK566; have hfqgb566_1 := fz_ BK566 1; have hcz7_0 := c0_ BK566; have hcz7_1 := c1_ BK566; have hfz7_0 := fz_ BK566 0; have hfz7_1 := fz_ BK566 1)); try go_wp2_with (first | ((with_reducible refine gate_dst (N := 2) rfl ?_); refine bx_ 2 #[.int .u64 a0_0, .int .u64 a0_1] 26 ?_; intro gb566 hg w6 BK566 hb; have GW566 := bg_ hg; have GE566 := GW566; replace HB := bl_ hb; clear hb hg; have hcqgb566_0 := c0_ BK566; have hfqgb566_0 := fz_ BK566 0; have hcqgb566_1 := c1_ BK566; have hfqgb566_1 := fz_ BK566 1; have hcz7_0 := c0_ BK566; have hcz7_1 := c1_ BK566; have hfz7_0 := fz_ BK566 0; have hfz7_1 := fz_ BK566 1)))
  go_ret
  exact ⟨vv_, bz_⟩

end Go.Proofs.Ytnephcecobocdaa.PA
