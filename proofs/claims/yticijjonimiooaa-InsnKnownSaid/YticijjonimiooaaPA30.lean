import Derived.Test.YticijjonimiooaaWTab
import Derived.Test.YticijjonimiooaaPA0
import Derived.Test.YticijjonimiooaaSq
import Derived.Test.YticijjonimiooaaPA2
import Derived.Test.YticijjonimiooaaPA4
import Derived.Test.YticijjonimiooaaPA9
import Derived.Test.YticijjonimiooaaPA17
import Derived.Test.YticijjonimiooaaPA20
import Derived.Test.YticijjonimiooaaPA22
import Derived.Test.YticijjonimiooaaPA23
namespace Go.Proofs.Yticijjonimiooaa.PA
open Go.RowKit Go.Proofs.YticijjonimiooaaW.PrintWords Go.Proofs.YticijjonimiooaaW.PrintLast Go.Proofs.YticijjonimiooaaW.PrintMore
attribute [local go_sem] max2_int min2_int max_two min_two max_three min_three max_four min_four
set_option linter.unusedVariables false
set_option linter.unusedSimpArgs false
def lockgatelaw02_InsnChecks.f (k : Nat) (a0_0 : Int) (a0_1 : Int) (a0_2 : Int) (a0_3 : Int) (a0_4 : Int) : Option (Bool) := (insn_Check.f k a0_0 a0_1 a0_2 a0_3 a0_4).bind fun t527 => ((lockgateref02_Check.f k a0_0 a0_1 a0_2 a0_3 a0_4).bind fun t528 => (if t527 = t528 then ((insn_Size.f a0_0 a0_1 a0_2 a0_3 a0_4).bind fun t529 => ((lockgateref02_Size.f a0_0 a0_1 a0_2 a0_3 a0_4).bind fun t530 => (if t529 = t530 then ((insn_Width.f a0_0 a0_1 a0_2 a0_3 a0_4).bind fun t531 => ((lockgateref02_Width.f k a0_0 a0_1 a0_2 a0_3 a0_4).bind fun t532 => (if t531 = t532 then ((lockgatelaw02_works.f k).bind fun t533 => (some t533)) else (some false)))) else (some false)))) else (some false)))
theorem lockgatelaw02_InsnChecks.mono : ∀ a0 a1 a2 a3 a4 k, LeO (lockgatelaw02_InsnChecks.f k a0 a1 a2 a3 a4) (lockgatelaw02_InsnChecks.f (k + 1) a0 a1 a2 a3 a4) := by
 intro a0 a1 a2 a3 a4 k
 unfold lockgatelaw02_InsnChecks.f
 repeat' first
  | (with_reducible exact insn_Check.mono _ _ _ _ _ _)
  | (with_reducible exact lockgatelaw02_works.mono _)
  | (with_reducible exact lockgateref02_Check.mono _ _ _ _ _ _)
  | (with_reducible exact lockgateref02_Width.mono _ _ _ _ _ _)
  | (with_reducible exact LeO.refl _)
  | (with_reducible exact LeO.none _)
  | (with_reducible refine LeO.ite ?_ ?_)
  | (with_reducible refine LeO.bind ?_ (fun _ => ?_))
  | exact insn_Check.mono _ _ _ _ _ _
  | exact lockgatelaw02_works.mono _
  | exact lockgateref02_Check.mono _ _ _ _ _ _
  | exact lockgateref02_Width.mono _ _ _ _ _ _
  | exact LeO.none _
  | refine LeO.ite ?_ ?_
  | refine LeO.bind ?_ (fun _ => ?_)
def lockgatelaw02_InsnChecks.T1 : Bool × List (List Nat × List Nat) := (true, [([], []), ([0], [0]), ([], []), ([2, 1], [2]), ([1, 3], [1, 3]), ([4, 3], [4]), ([5], [5]), ([6, 5, 5], [5, 6]), ([5], [5]), ([8, 7, 5], [5, 8]), ([7, 9, 5], [5, 7, 9]), ([5, 10], [5, 10]), ([11, 9], [11]), ([12], [12]), ([13, 12, 12], [12, 13]), ([12], [12]), ([15, 14, 12], [12, 15]), ([14, 16, 12], [12, 14, 16]), ([12, 17], [12, 17]), ([18, 16], [18]), ([19, 19], [19]), ([19, 20], [19, 20]), ([21, 20, 0, 1, 2, 3, 4, 5, 6, 7, 8, 9, 10, 11, 12, 13, 14, 15, 16, 17, 18, 19, 20, 21], [21])])
def lockgatelaw02_InsnChecks.B1 : List Nat := [0, 1, 0, 7, 15, 31, 63, 127, 63, 511, 1023, 2047, 4095, 8191, 16383, 8191, 65535, 131071, 262143, 524287, 1048575, 2097151, 4194303]
theorem lockgatelaw02_InsnChecks.tab1 : rtab .any (opsOf Try.f9 1) = lockgatelaw02_InsnChecks.T1 := by kernel_rfl
theorem lockgatelaw02_InsnChecks.bits1 : waitsOk lockgatelaw02_InsnChecks.T1.2 lockgatelaw02_InsnChecks.B1 = true := by kernel_rfl
set_option maxHeartbeats 8000000 in
set_option maxRecDepth 100000 in
theorem lockgatelaw02_InsnChecks.calls (k : Nat) (a0_0 : Int) (a0_1 : Int) (a0_2 : Int) (a0_3 : Int) (a0_4 : Int) (r : Bool) (w : World) (HRT : Aside0 (r = true)) (h : lockgatelaw02_InsnChecks.f k a0_0 a0_1 a0_2 a0_3 a0_4 = some r) :
 Calls Try.prog 9 #[.agg #[.int .i64 a0_0, .int .i64 a0_1, .int .i64 a0_2, .int .i64 a0_3, .int .i64 a0_4]] w fun e w' => e = .returned (.bool r) ∧ Below w.heap.size w w' := by
 have hu40 := Try.underlying40
 have HB := Aside0.mk (Below.refl w.heap.size w)
 have H : ((insn_Check.f k a0_0 a0_1 a0_2 a0_3 a0_4).bind fun t527 => ((lockgateref02_Check.f k a0_0 a0_1 a0_2 a0_3 a0_4).bind fun t528 => (if t527 = t528 then ((insn_Size.f a0_0 a0_1 a0_2 a0_3 a0_4).bind fun t529 => ((lockgateref02_Size.f a0_0 a0_1 a0_2 a0_3 a0_4).bind fun t530 => (if t529 = t530 then ((insn_Width.f a0_0 a0_1 a0_2 a0_3 a0_4).bind fun t531 => ((lockgateref02_Width.f k a0_0 a0_1 a0_2 a0_3 a0_4).bind fun t532 => (if t531 = t532 then ((lockgatelaw02_works.f k).bind fun t533 => (some t533)) else (some false)))) else (some false)))) else (some false)))) = some r := h
 clear h
 replace H := Option.bind_eq_some_iff.mp H
 obtain ⟨t527, A20, H⟩ := H
 (try dsimp only at H)
 have A2 := Aside0.mk A20
 clear A20
 replace H := Option.bind_eq_some_iff.mp H
 obtain ⟨t528, A30, H⟩ := H
 (try dsimp only at H)
 have A3 := Aside0.mk A30
 clear A30
 by_cases c4 : t527 = t528
 rotate_left
 ·rw [if_neg c4] at H
  have c4b0 : (t527 == t528) = false := beq_eq_false_iff_ne.mpr c4
  have c4b1 : (t527 != t528) = true := bne_iff_ne.mpr c4
  exact absurd ((Option.some.inj H).trans HRT.out) (by decide)
 rw [if_pos c4] at H
 have c4b0 : (t527 == t528) = true := beq_iff_eq.mpr c4
 have c4b1 : (t527 != t528) = false := bne_eq_false_iff_eq.mpr c4
 clear c4
 replace H := Option.bind_eq_some_iff.mp H
 obtain ⟨t529, A50, H⟩ := H
 (try dsimp only at H)
 have A5 := Aside0.mk A50
 clear A50
 replace H := Option.bind_eq_some_iff.mp H
 obtain ⟨t530, A60, H⟩ := H
 (try dsimp only at H)
 have A6 := Aside0.mk A60
 clear A60
 by_cases c7 : t529 = t530
 rotate_left
 ·rw [if_neg c7] at H
  have c7b0 : (t529 == t530) = false := beq_eq_false_iff_ne.mpr c7
  have c7b1 : (t529 != t530) = true := bne_iff_ne.mpr c7
  exact absurd ((Option.some.inj H).trans HRT.out) (by decide)
 rw [if_pos c7] at H
 have c7b0 : (t529 == t530) = true := beq_iff_eq.mpr c7
 have c7b1 : (t529 != t530) = false := bne_eq_false_iff_eq.mpr c7
 clear c7
 replace H := Option.bind_eq_some_iff.mp H
 obtain ⟨t531, A80, H⟩ := H
 (try dsimp only at H)
 have A8 := Aside0.mk A80
 clear A80
 replace H := Option.bind_eq_some_iff.mp H
 obtain ⟨t532, A90, H⟩ := H
 (try dsimp only at H)
 have A9 := Aside0.mk A90
 clear A90
 by_cases c10 : t531 = t532
 rotate_left
 ·rw [if_neg c10] at H
  have c10b0 : (t531 == t532) = false := beq_eq_false_iff_ne.mpr c10
  have c10b1 : (t531 != t532) = true := bne_iff_ne.mpr c10
  exact absurd ((Option.some.inj H).trans HRT.out) (by decide)
 rw [if_pos c10] at H
 have c10b0 : (t531 == t532) = true := beq_iff_eq.mpr c10
 have c10b1 : (t531 != t532) = false := bne_eq_false_iff_eq.mpr c10
 clear c10
 replace H := Option.bind_eq_some_iff.mp H
 obtain ⟨t533, A110, H⟩ := H
 (try dsimp only at H)
 have A11 := Aside0.mk A110
 clear A110
 obtain rfl := Option.some.inj H
 go_enter Try.func9, Try.ntmps9
 try go_wp2_with (first | ((with_reducible refine gate_dst (N := 1) rfl ?_); refine bx_ 1 #[.int .i64 a0_0, .int .i64 a0_1, .int .i64 a0_2, .int .i64 a0_3, .int .i64 a0_4] 40 ?_; intro gb526 hg w12 BK526 hb; have GW526 := bg_ hg; have GE526 := GW526; replace HB := bl_ hb; clear hb hg))
 replace BK526 := Aside0.mk (blk_drew BK526.out)
 replace HB := Aside0.mk (below_drew1 HB.out)
 refine start_ (n := 23) (S := fun w' => w'.cell? ⟨gb526, 0, none⟩ = some (.int .i64 a0_0) ∧ w'.cell? ⟨gb526, 1, none⟩ = some (.int .i64 a0_1) ∧ w'.cell? ⟨gb526, 2, none⟩ = some (.int .i64 a0_2) ∧ w'.cell? ⟨gb526, 3, none⟩ = some (.int .i64 a0_3) ∧ w'.cell? ⟨gb526, 4, none⟩ = some (.int .i64 a0_4)) (ds := []) #[Z,Z,Z,Z,Z,Z,Z,Z,Z,Z,Z,Z,Z,Z,Z,Z,Z,Z,Z,Z,Z,Z,Z] (by kernel_rfl) rfl rfl ⟨c0_ BK526, c1_ BK526, c2_ BK526, c3_ BK526, c4_ BK526⟩ (fun hHeld => ?_); refine with_tabW lockgatelaw02_InsnChecks.tab1 lockgatelaw02_InsnChecks.bits1 (fun HT_ HW_ => ?_)
 generalize w12.drew = w13 at BK526 HB hHeld ⊢
 refine tq0_ 0 3 #[Y,Z,Z,Z,Z,Z,Z,Z,Z,Z,Z,Z,Z,Z,Z,Z,Z,Z,Z,Z,Z,Z,Z] hHeld ?_
 refine tq0_ 2 5 #[Y,Z,Y,Z,Z,Z,Z,Z,Z,Z,Z,Z,Z,Z,Z,Z,Z,Z,Z,Z,Z,Z,Z] hHeld ?_
 refine one_ (i := 1) (N := some 4) #[Y,Y,Y,Z,Z,Z,Z,Z,Z,Z,Z,Z,Z,Z,Z,Z,Z,Z,Z,Z,Z,Z,Z] rfl rfl (one_of HT_.out (by kernel_rfl)) (by decide) (fun K hK => ?_)
 refine goes_ Try.func25 (by kernel_rfl) rfl #[.agg #[.int .i64 a0_0, .int .i64 a0_1, .int .i64 a0_2, .int .i64 a0_3, .int .i64 a0_4]] (by rfl) rfl rfl mp_ ?_
 with_reducible refine (insn_Check.calls k a0_0 a0_1 a0_2 a0_3 a0_4 t527 _ A2.out).mono ?_
 rintro e w14 ⟨rfl, hb⟩
 refine ⟨_, rfl, ?_⟩
 replace BK526 := bb_ hb BK526
 replace HB := bl_ hb
 try clear hb
 refine hK.out _ _ ⟨c0_ BK526, c1_ BK526, c2_ BK526, c3_ BK526, c4_ BK526⟩ (fun hHeld => ?_)
 clear hK K
 refine norm_ (a' := ?_) ?_ ?_
 rotate_left
 ·show Act.put _ (some 4) _ = _
  simp only [Act.put, s1_, s2_, s3_, i64_w, i32_w]
  rfl
 refine one_ (i := 3) (N := some 6) #[Y,Y,Y,Y,Z,Z,Z,Z,Z,Z,Z,Z,Z,Z,Z,Z,Z,Z,Z,Z,Z,Z,Z] rfl rfl (one_of HT_.out (by kernel_rfl)) (by decide) (fun K hK => ?_)
 refine goes_ Try.func28 (by kernel_rfl) rfl #[.agg #[.int .i64 a0_0, .int .i64 a0_1, .int .i64 a0_2, .int .i64 a0_3, .int .i64 a0_4]] (by rfl) rfl rfl mp_ ?_
 with_reducible refine (lockgateref02_Check.calls k a0_0 a0_1 a0_2 a0_3 a0_4 t528 _ A3.out).mono ?_
 rintro e w15 ⟨rfl, hb⟩
 refine ⟨_, rfl, ?_⟩
 replace BK526 := bb_ hb BK526
 replace HB := bl_ hb
 try clear hb
 refine hK.out _ _ ⟨c0_ BK526, c1_ BK526, c2_ BK526, c3_ BK526, c4_ BK526⟩ (fun hHeld => ?_)
 clear hK K
 refine norm_ (a' := ?_) ?_ ?_
 rotate_left
 ·show Act.put _ (some 6) _ = _
  simp only [Act.put, s1_, s2_, s3_, i64_w, i32_w]
  rfl
 refine pq_ 4 7 #[Y,Y,Y,Y,Y,Z,Z,Z,Z,Z,Z,Z,Z,Z,Z,Z,Z,Z,Z,Z,Z,Z,Z] ?_
 refine pq_ 5 8 #[Y,Y,Y,Y,Y,Y,Z,Z,Z,Z,Z,Z,Z,Z,Z,Z,Z,Z,Z,Z,Z,Z,Z] ?_
 refine tq0_ 6 9 #[Y,Y,Y,Y,Y,Y,Y,Z,Z,Z,Z,Z,Z,Z,Z,Z,Z,Z,Z,Z,Z,Z,Z] hHeld ?_
 refine tq0_ 8 11 #[Y,Y,Y,Y,Y,Y,Y,Z,Y,Z,Z,Z,Z,Z,Z,Z,Z,Z,Z,Z,Z,Z,Z] hHeld ?_
 refine one_ (i := 7) (N := some 10) #[Y,Y,Y,Y,Y,Y,Y,Y,Y,Z,Z,Z,Z,Z,Z,Z,Z,Z,Z,Z,Z,Z,Z] rfl rfl (one_of HT_.out (by kernel_rfl)) (by decide) (fun K hK => ?_)
 refine goes_ Try.func24 (by kernel_rfl) rfl #[.agg #[.int .i64 a0_0, .int .i64 a0_1, .int .i64 a0_2, .int .i64 a0_3, .int .i64 a0_4]] (by rfl) rfl rfl mp_ ?_
 with_reducible refine (insn_Size.calls a0_0 a0_1 a0_2 a0_3 a0_4 t529 _ A5.out).mono ?_
 rintro e w16 ⟨rfl, hb⟩
 refine ⟨_, rfl, ?_⟩
 replace BK526 := bb_ hb BK526
 replace HB := bl_ hb
 try clear hb
 refine hK.out _ _ ⟨c0_ BK526, c1_ BK526, c2_ BK526, c3_ BK526, c4_ BK526⟩ (fun hHeld => ?_)
 clear hK K
 refine norm_ (a' := ?_) ?_ ?_
 rotate_left
 ·show Act.put _ (some 10) _ = _
  simp only [Act.put, s1_, s2_, s3_, i64_w, i32_w]
  rfl
 refine one_ (i := 9) (N := some 12) #[Y,Y,Y,Y,Y,Y,Y,Y,Y,Y,Z,Z,Z,Z,Z,Z,Z,Z,Z,Z,Z,Z,Z] rfl rfl (one_of HT_.out (by kernel_rfl)) (by decide) (fun K hK => ?_)
 refine goes_ Try.func29 (by kernel_rfl) rfl #[.agg #[.int .i64 a0_0, .int .i64 a0_1, .int .i64 a0_2, .int .i64 a0_3, .int .i64 a0_4]] (by rfl) rfl rfl mp_ ?_
 with_reducible refine (lockgateref02_Size.calls a0_0 a0_1 a0_2 a0_3 a0_4 t530 _ A6.out).mono ?_
 rintro e w17 ⟨rfl, hb⟩
 refine ⟨_, rfl, ?_⟩
 replace BK526 := bb_ hb BK526
 replace HB := bl_ hb
 try clear hb
 refine hK.out _ _ ⟨c0_ BK526, c1_ BK526, c2_ BK526, c3_ BK526, c4_ BK526⟩ (fun hHeld => ?_)
 clear hK K
 refine norm_ (a' := ?_) ?_ ?_
 rotate_left
 ·show Act.put _ (some 12) _ = _
  simp only [Act.put, s1_, s2_, s3_, i64_w, i32_w]
  rfl
 refine pq_ 10 13 #[Y,Y,Y,Y,Y,Y,Y,Y,Y,Y,Y,Z,Z,Z,Z,Z,Z,Z,Z,Z,Z,Z,Z] ?_
 refine pq_ 11 14 #[Y,Y,Y,Y,Y,Y,Y,Y,Y,Y,Y,Y,Z,Z,Z,Z,Z,Z,Z,Z,Z,Z,Z] ?_
 refine pq_ 12 15 #[Y,Y,Y,Y,Y,Y,Y,Y,Y,Y,Y,Y,Y,Z,Z,Z,Z,Z,Z,Z,Z,Z,Z] ?_
 refine tq0_ 13 16 #[Y,Y,Y,Y,Y,Y,Y,Y,Y,Y,Y,Y,Y,Y,Z,Z,Z,Z,Z,Z,Z,Z,Z] hHeld ?_
 refine tq0_ 15 18 #[Y,Y,Y,Y,Y,Y,Y,Y,Y,Y,Y,Y,Y,Y,Z,Y,Z,Z,Z,Z,Z,Z,Z] hHeld ?_
 refine one_ (i := 14) (N := some 17) #[Y,Y,Y,Y,Y,Y,Y,Y,Y,Y,Y,Y,Y,Y,Y,Y,Z,Z,Z,Z,Z,Z,Z] rfl rfl (one_of HT_.out (by kernel_rfl)) (by decide) (fun K hK => ?_)
 refine goes_ Try.func30 (by kernel_rfl) rfl #[.agg #[.int .i64 a0_0, .int .i64 a0_1, .int .i64 a0_2, .int .i64 a0_3, .int .i64 a0_4]] (by rfl) rfl rfl mp_ ?_
 with_reducible refine (insn_Width.calls a0_0 a0_1 a0_2 a0_3 a0_4 t531 _ A8.out).mono ?_
 rintro e w18 ⟨rfl, hb⟩
 refine ⟨_, rfl, ?_⟩
 replace BK526 := bb_ hb BK526
 replace HB := bl_ hb
 try clear hb
 refine hK.out _ _ ⟨c0_ BK526, c1_ BK526, c2_ BK526, c3_ BK526, c4_ BK526⟩ (fun hHeld => ?_)
 clear hK K
 refine norm_ (a' := ?_) ?_ ?_
 rotate_left
 ·show Act.put _ (some 17) _ = _
  simp only [Act.put, s1_, s2_, s3_, i64_w, i32_w]
  rfl
 refine one_ (i := 16) (N := some 19) #[Y,Y,Y,Y,Y,Y,Y,Y,Y,Y,Y,Y,Y,Y,Y,Y,Y,Z,Z,Z,Z,Z,Z] rfl rfl (one_of HT_.out (by kernel_rfl)) (by decide) (fun K hK => ?_)
 refine goes_ Try.func31 (by kernel_rfl) rfl #[.agg #[.int .i64 a0_0, .int .i64 a0_1, .int .i64 a0_2, .int .i64 a0_3, .int .i64 a0_4]] (by rfl) rfl rfl mp_ ?_
 with_reducible refine (lockgateref02_Width.calls k a0_0 a0_1 a0_2 a0_3 a0_4 t532 _ A9.out).mono ?_
 rintro e w19 ⟨rfl, hb⟩
 refine ⟨_, rfl, ?_⟩
 replace BK526 := bb_ hb BK526
 replace HB := bl_ hb
 try clear hb
 refine hK.out _ _ ⟨c0_ BK526, c1_ BK526, c2_ BK526, c3_ BK526, c4_ BK526⟩ (fun hHeld => ?_)
 clear hK K
 refine norm_ (a' := ?_) ?_ ?_
 rotate_left
 ·show Act.put _ (some 19) _ = _
  simp only [Act.put, s1_, s2_, s3_, i64_w, i32_w]
  rfl
 refine pq_ 17 20 #[Y,Y,Y,Y,Y,Y,Y,Y,Y,Y,Y,Y,Y,Y,Y,Y,Y,Y,Z,Z,Z,Z,Z] ?_
 refine pq_ 18 21 #[Y,Y,Y,Y,Y,Y,Y,Y,Y,Y,Y,Y,Y,Y,Y,Y,Y,Y,Y,Z,Z,Z,Z] ?_
 refine pq_ 19 22 #[Y,Y,Y,Y,Y,Y,Y,Y,Y,Y,Y,Y,Y,Y,Y,Y,Y,Y,Y,Y,Z,Z,Z] ?_
 refine one_ (i := 20) (N := some 23) #[Y,Y,Y,Y,Y,Y,Y,Y,Y,Y,Y,Y,Y,Y,Y,Y,Y,Y,Y,Y,Y,Z,Z] rfl rfl (one_of HT_.out (by kernel_rfl)) (by decide) (fun K hK => ?_)
 refine goes_ Try.func11 (by kernel_rfl) rfl #[] (by rfl) rfl rfl mp_ ?_
 with_reducible refine (lockgatelaw02_works.calls k  t533 _ A11.out).mono ?_
 rintro e w20 ⟨rfl, hb⟩
 refine ⟨_, rfl, ?_⟩
 replace BK526 := bb_ hb BK526
 replace HB := bl_ hb
 try clear hb
 refine hK.out _ _ ⟨c0_ BK526, c1_ BK526, c2_ BK526, c3_ BK526, c4_ BK526⟩ (fun hHeld => ?_)
 clear hK K
 refine norm_ (a' := ?_) ?_ ?_
 rotate_left
 ·show Act.put _ (some 23) _ = _
  simp only [Act.put, s1_, s2_, s3_, i64_w, i32_w]
  rfl
 refine pq_ 21 24 #[Y,Y,Y,Y,Y,Y,Y,Y,Y,Y,Y,Y,Y,Y,Y,Y,Y,Y,Y,Y,Y,Y,Z] ?_
 refine pq_ 22 2 #[Y,Y,Y,Y,Y,Y,Y,Y,Y,Y,Y,Y,Y,Y,Y,Y,Y,Y,Y,Y,Y,Y,Y] ?_
 refine done_ (done_of HT_.out (by kernel_rfl)) ?_
 try go_wp2
 go_ret
 exact ⟨vv_, bz_⟩
end Go.Proofs.Yticijjonimiooaa.PA
