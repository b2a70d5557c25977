-- PRINTED by print.py (a twelfth state) out of the translation. Not trusted: Lean checks it.
import Derived.Test.YtnephcecobocdaaWTab
import Derived.Test.YtnephcecobocdaaPA0
import Derived.Test.YtnephcecobocdaaSq
import Derived.Test.YtnephcecobocdaaPA6
namespace Go.Proofs.Ytnephcecobocdaa.PA
open Go.RowKit Go.Proofs.YtnephcecobocdaaW.PrintWords Go.Proofs.YtnephcecobocdaaW.PrintLast Go.Proofs.YtnephcecobocdaaW.PrintMore
attribute [local go_sem] max2_int min2_int max_two min_two max_three min_three max_four min_four   -- for this text's walks alone
set_option linter.unusedVariables false
set_option linter.unusedSimpArgs false

/-! ### span_ULsh: function 55 -/
def span_ULsh.f (a0_0 : Int) (a0_1 : Int) (a1 : Int) : Option (Int × Int) := if 0 ≤ (Go.bits .and .i64 a1 63) then (if (shr .u64 (shl .u64 a0_1 (Go.bits .and .i64 a1 63)) (Go.bits .and .i64 a1 63)) = a0_1 then (some (shl .u64 a0_0 (Go.bits .and .i64 a1 63), shl .u64 a0_1 (Go.bits .and .i64 a1 63))) else ((span_UAll.f).bind fun bt576 => (some (bt576.1, bt576.2)))) else (none)
def span_ULsh.T2 : Bool × List (List Nat × List Nat) := (true, [([], []), ([0], [0]), ([], []), ([1, 2], [1, 2]), ([], []), ([3, 4], [3, 4]), ([], []), ([6], [6]), ([5, 7], [5, 7])])
def span_ULsh.B2 : List Nat := [0, 1, 0, 7, 0, 31, 0, 64, 255]
theorem span_ULsh.tab2 : rtab .any (opsOf Try.f55 2) = span_ULsh.T2 := by kernel_rfl
theorem span_ULsh.bits2 : waitsOk span_ULsh.T2.2 span_ULsh.B2 = true := by kernel_rfl
def span_ULsh.T4 : Bool × List (List Nat × List Nat) := (true, [([], []), ([0], [0]), ([], []), ([1, 2], [1, 2]), ([], []), ([4], [4]), ([], []), ([5, 6], [5, 6]), ([3, 7], [3, 7]), ([8, 0, 1, 2, 3, 4, 5, 6, 7, 8], [8])])
def span_ULsh.B4 : List Nat := [0, 1, 0, 7, 0, 16, 0, 112, 255, 511]
theorem span_ULsh.tab4 : rtab .any (opsOf Try.f55 4) = span_ULsh.T4 := by kernel_rfl
theorem span_ULsh.bits4 : waitsOk span_ULsh.T4.2 span_ULsh.B4 = true := by kernel_rfl
set_option maxHeartbeats 8000000 in
set_option maxRecDepth 100000 in
theorem span_ULsh.calls (a0_0 : Int) (a0_1 : Int) (a1 : Int) (r1 : Int) (r2 : Int) (w : World) (h : span_ULsh.f a0_0 a0_1 a1 = some (r1, r2)) :
 Calls Try.prog 55 #[.agg #[.int .u64 a0_0, .int .u64 a0_1], .int .i64 a1] w fun e w' => e = .returned (.agg #[.int .u64 r1, .int .u64 r2]) ∧ Below w.heap.size w w' := by
 have hu26 := Try.underlying26
 have HB := Aside0.mk (Below.refl w.heap.size w)
 have H : (if 0 ≤ (Go.bits .and .i64 a1 63) then (if (shr .u64 (shl .u64 a0_1 (Go.bits .and .i64 a1 63)) (Go.bits .and .i64 a1 63)) = a0_1 then (some (shl .u64 a0_0 (Go.bits .and .i64 a1 63), shl .u64 a0_1 (Go.bits .and .i64 a1 63))) else ((span_UAll.f).bind fun bt576 => (some (bt576.1, bt576.2)))) else (none)) = some (r1, r2) := h
 clear h
 by_cases c3 : 0 ≤ (Go.bits .and .i64 a1 63)
 ·rw [if_pos c3] at H
  have c3b0 := eq_true c3
  have c3b1 : decide (0 ≤ (Go.bits .and .i64 a1 63)) = true := decide_eq_true c3
  clear c3
  obtain ⟨ji4, hji4⟩ : ∃ j_ : Int, (shl .u64 a0_1 (Go.bits .and .i64 a1 63)) = j_ := ⟨_, rfl⟩
  replace H : (if (shr .u64 (ji4) (Go.bits .and .i64 a1 63)) = a0_1 then (some (shl .u64 a0_0 (Go.bits .and .i64 a1 63), ji4)) else ((span_UAll.f).bind fun bt576 => (some (bt576.1, bt576.2)))) = some (r1, r2) := by first | (rw [hji4] at H; exact H) | (simp only [hji4] at H ⊢; exact H)
  have hji4_ : (IntKind.u64.wrap (a0_1 * 2 ^ min (Go.bits .and .i64 a1 63).toNat 64)) = ji4 := hji4
  have hji4z : (Go.bits .and .i64 a1 63) ≤ 64 → (IntKind.u64.wrap (a0_1 * 2 ^ (Go.bits .and .i64 a1 63).toNat)) = ji4 := shl_small hji4
  have c5b0 := eq_true (of_decide_eq_true (by first | (with_reducible assumption) | assumption) : 0 ≤ (Go.bits .and .i64 a1 63))
  obtain ⟨ji6, hji6⟩ : ∃ j_ : Int, (shr .u64 (ji4) (Go.bits .and .i64 a1 63)) = j_ := ⟨_, rfl⟩
  replace H : (if (ji6) = a0_1 then (some (shl .u64 a0_0 (Go.bits .and .i64 a1 63), ji4)) else ((span_UAll.f).bind fun bt576 => (some (bt576.1, bt576.2)))) = some (r1, r2) := by first | (rw [hji6] at H; exact H) | (simp only [hji6] at H ⊢; exact H)
  have hji6_ : ((ji4) / 2 ^ min (Go.bits .and .i64 a1 63).toNat 64) = ji6 := hji6
  have hji6z : (Go.bits .and .i64 a1 63) ≤ 64 → ((ji4) / 2 ^ (Go.bits .and .i64 a1 63).toNat) = ji6 := shr_small hji6
  by_cases c7 : (ji6) = a0_1
  ·rw [if_pos c7] at H
   have c7b0 : ((ji6) == a0_1) = true := beq_iff_eq.mpr c7
   have c7b1 : ((ji6) != a0_1) = false := bne_eq_false_iff_eq.mpr c7
   clear c7
   have c8b0 := eq_true (of_decide_eq_true (by first | (with_reducible assumption) | assumption) : 0 ≤ (Go.bits .and .i64 a1 63))
   obtain ⟨ji9, hji9⟩ : ∃ j_ : Int, (shl .u64 a0_0 (Go.bits .and .i64 a1 63)) = j_ := ⟨_, rfl⟩
   replace H : (some (ji9, ji4)) = some (r1, r2) := by first | (rw [hji9] at H; exact H) | (simp only [hji9] at H ⊢; exact H)
   have hji9_ : (IntKind.u64.wrap (a0_0 * 2 ^ min (Go.bits .and .i64 a1 63).toNat 64)) = ji9 := hji9
   have hji9z : (Go.bits .and .i64 a1 63) ≤ 64 → (IntKind.u64.wrap (a0_0 * 2 ^ (Go.bits .and .i64 a1 63).toNat)) = ji9 := shl_small hji9
   have c10b0 := eq_true (of_decide_eq_true (by first | (with_reducible assumption) | assumption) : 0 ≤ (Go.bits .and .i64 a1 63))
   simp only [Option.some.injEq, Prod.mk.injEq] at H
   obtain ⟨rfl, rfl⟩ := H
   go_enter Try.func55, Try.ntmps55
   try go_wp2_with (first | ((with_reducible refine gate_dst (N := 2) rfl ?_); refine bx_ 2 #[.int .u64 a0_0, .int .u64 a0_1] 26 ?_; intro gb574 hg w11 BK574 hb; have GW574 := bg_ hg; have GE574 := GW574; replace HB := bl_ hb; clear hb hg) | ((with_reducible refine gate_dst (N := 4) rfl ?_); refine bx_ 4 #[.int .u64 0, .int .u64 0] 26 ?_; intro gb575 hg w12 BK575 hb; have GW575 := bg_ hg; have GE575 := GW575; have NB574_575 := bm_ hg BK574; have NB575_574 := bn_ hg BK574; replace BK574 := bb_ hb BK574; replace HB := bl_ hb; clear hb hg))
   replace BK574 := Aside0.mk (blk_drew BK574.out)
   replace BK575 := Aside0.mk (blk_drew BK575.out)
   replace HB := Aside0.mk (below_drew1 HB.out)
   refine start_ (n := 9) (S := fun w' => w'.cell? ⟨gb574, 0, none⟩ = some (.int .u64 a0_0) ∧ w'.cell? ⟨gb574, 1, none⟩ = some (.int .u64 a0_1)) (ds := []) #[n_,n_,n_,n_,n_,n_,n_,n_,n_] (by kernel_rfl) rfl rfl ⟨c0_ BK574, c1_ BK574⟩ (fun hHeld => ?_); refine with_tabW span_ULsh.tab2 span_ULsh.bits2 (fun HT_ HW_ => ?_)
   generalize w12.drew = w13 at BK574 BK575 HB hHeld ⊢
   refine pq_ 0 7 #[y_,n_,n_,n_,n_,n_,n_,n_,n_] ?_
   refine pq_ 2 9 #[y_,n_,y_,n_,n_,n_,n_,n_,n_] ?_
   refine pq_ 4 11 #[y_,n_,y_,n_,y_,n_,n_,n_,n_] ?_
   refine pq_ 6 13 #[y_,n_,y_,n_,y_,n_,y_,n_,n_] ?_
   refine tq0_ 1 8 #[y_,y_,y_,n_,y_,n_,y_,n_,n_] hHeld ?_
   refine pq_ 3 10 #[y_,y_,y_,y_,y_,n_,y_,n_,n_] ?_
   refine pq_ 5 12 #[y_,y_,y_,y_,y_,y_,y_,n_,n_] ?_
   refine tq0_ 7 14 #[y_,y_,y_,y_,y_,y_,y_,y_,n_] hHeld ?_
   refine pq_ 8 15 #[y_,y_,y_,y_,y_,y_,y_,y_,y_] ?_
   refine done_ (done_of HT_.out (by kernel_rfl)) ?_
   try go_wp2
   replace BK574 := Aside0.mk (blk_drew BK574.out)
   replace BK575 := Aside0.mk (blk_drew BK575.out)
   replace HB := Aside0.mk (below_drew1 HB.out)
   refine start_ (n := 10) (S := fun w' => w'.cell? ⟨gb574, 0, none⟩ = some (.int .u64 a0_0) ∧ w'.cell? ⟨gb574, 1, none⟩ = some (.int .u64 a0_1)) (ds := []) #[n_,n_,n_,n_,n_,n_,n_,n_,n_,n_] (by kernel_rfl) rfl rfl ⟨c0_ BK574, c1_ BK574⟩ (fun hHeld => ?_); refine with_tabW span_ULsh.tab4 span_ULsh.bits4 (fun HT_ HW_ => ?_)
   generalize w13.drew = w14 at BK574 BK575 HB hHeld ⊢
   refine pq_ 0 17 #[y_,n_,n_,n_,n_,n_,n_,n_,n_,n_] ?_
   refine pq_ 2 19 #[y_,n_,y_,n_,n_,n_,n_,n_,n_,n_] ?_
   refine pq_ 4 21 #[y_,n_,y_,n_,y_,n_,n_,n_,n_,n_] ?_
   refine pq_ 6 23 #[y_,n_,y_,n_,y_,n_,y_,n_,n_,n_] ?_
   refine tq0_ 1 18 #[y_,y_,y_,n_,y_,n_,y_,n_,n_,n_] hHeld ?_
   refine pq_ 3 20 #[y_,y_,y_,y_,y_,n_,y_,n_,n_,n_] ?_
   refine tq0_ 5 22 #[y_,y_,y_,y_,y_,y_,y_,n_,n_,n_] hHeld ?_
   refine pq_ 7 24 #[y_,y_,y_,y_,y_,y_,y_,y_,n_,n_] ?_
   refine pq_ 8 25 #[y_,y_,y_,y_,y_,y_,y_,y_,y_,n_] ?_
   refine one_ (i := 9) (N := none) #[y_,y_,y_,y_,y_,y_,y_,y_,y_,y_] rfl rfl (one_of HT_.out (by kernel_rfl)) (by decide) (fun K hK => ?_)
   have hs15 := c0_ BK575
   have hfs15 := fz_ BK575 0
   have hns15_0 := NB574_575.out
   have hms15_0 := NB575_574.out
   have hs16 := c1_ BK575
   have hfs16 := fz_ BK575 1
   have hns16_0 := NB574_575.out
   have hms16_0 := NB575_574.out
   refine skip_ (w1 := ?_) (by rfl) rfl ?_ ?_
   rotate_left
   ·go_simp
    rfl
   refine hK.out _ _ ⟨((cell_far (p := ⟨gb575, _, none⟩) NB574_575.out _).trans (((cell_far (p := ⟨gb575, _, none⟩) NB574_575.out _).trans (hHeld.1)))), ((cell_far (p := ⟨gb575, _, none⟩) NB574_575.out _).trans (((cell_far (p := ⟨gb575, _, none⟩) NB574_575.out _).trans (hHeld.2))))⟩ (fun hHeld => ?_)
   clear hK K
   refine done_ (done_of HT_.out (by kernel_rfl)) ?_
   try go_wp2
   refine bodyPost_ret (results_cell_row rfl _ _ gb575 26 #[.int .u64 ji9, .int .u64 ji4] (0, 0) _ rfl (by (with_reducible repeat (first | apply bN_ | apply bD_ | apply bA_)); refine blk_put (cs := #[.int .u64 ji9, .int .u64 0]) ?_ 1 _ rfl; (with_reducible repeat (first | apply bN_ | apply bD_ | apply bA_)); refine blk_put (cs := #[.int .u64 0, .int .u64 0]) ?_ 0 _ rfl; exact bk_) Try.underlying26 rfl (by kernel_rfl)) rfl ?_
   exact ⟨by first | rfl | (simp [errW_none, errW_some] <;> rfl) | (simp only [← hji4, ← hji6, ← hji9]; first | rfl | (simp [errW_none, errW_some] <;> rfl)) | (simp [*, errW_none, errW_some] <;> rfl), bz_⟩
  ·rw [if_neg c7] at H
   have c7b0 : ((ji6) == a0_1) = false := beq_eq_false_iff_ne.mpr c7
   have c7b1 : ((ji6) != a0_1) = true := bne_iff_ne.mpr c7
   replace H := Option.bind_eq_some_iff.mp H
   obtain ⟨⟨t576, t577⟩, A170, H⟩ := H
   replace H : (some (t576, t577)) = some (r1, r2) := H
   have A17 := Aside0.mk A170
   clear A170
   simp only [Option.some.injEq, Prod.mk.injEq] at H
   obtain ⟨rfl, rfl⟩ := H
   go_enter Try.func55, Try.ntmps55
   try go_wp2_with (first | ((with_reducible refine gate_dst (N := 2) rfl ?_); refine bx_ 2 #[.int .u64 a0_0, .int .u64 a0_1] 26 ?_; intro gb574 hg w18 BK574 hb; have GW574 := bg_ hg; have GE574 := GW574; replace HB := bl_ hb; clear hb hg) | ((with_reducible refine gate_dst (N := 4) rfl ?_); refine bx_ 4 #[.int .u64 0, .int .u64 0] 26 ?_; intro gb575 hg w19 BK575 hb; have GW575 := bg_ hg; have GE575 := GW575; have NB574_575 := bm_ hg BK574; have NB575_574 := bn_ hg BK574; replace BK574 := bb_ hb BK574; replace HB := bl_ hb; clear hb hg))
   replace BK574 := Aside0.mk (blk_drew BK574.out)
   replace BK575 := Aside0.mk (blk_drew BK575.out)
   replace HB := Aside0.mk (below_drew1 HB.out)
   refine start_ (n := 9) (S := fun w' => w'.cell? ⟨gb574, 0, none⟩ = some (.int .u64 a0_0) ∧ w'.cell? ⟨gb574, 1, none⟩ = some (.int .u64 a0_1)) (ds := []) #[n_,n_,n_,n_,n_,n_,n_,n_,n_] (by kernel_rfl) rfl rfl ⟨c0_ BK574, c1_ BK574⟩ (fun hHeld => ?_); refine with_tabW span_ULsh.tab2 span_ULsh.bits2 (fun HT_ HW_ => ?_)
   generalize w19.drew = w20 at BK574 BK575 HB hHeld ⊢
   refine pq_ 0 7 #[y_,n_,n_,n_,n_,n_,n_,n_,n_] ?_
   refine pq_ 2 9 #[y_,n_,y_,n_,n_,n_,n_,n_,n_] ?_
   refine pq_ 4 11 #[y_,n_,y_,n_,y_,n_,n_,n_,n_] ?_
   refine pq_ 6 13 #[y_,n_,y_,n_,y_,n_,y_,n_,n_] ?_
   refine tq0_ 1 8 #[y_,y_,y_,n_,y_,n_,y_,n_,n_] hHeld ?_
   refine pq_ 3 10 #[y_,y_,y_,y_,y_,n_,y_,n_,n_] ?_
   refine pq_ 5 12 #[y_,y_,y_,y_,y_,y_,y_,n_,n_] ?_
   refine tq0_ 7 14 #[y_,y_,y_,y_,y_,y_,y_,y_,n_] hHeld ?_
   refine pq_ 8 15 #[y_,y_,y_,y_,y_,y_,y_,y_,y_] ?_
   refine done_ (done_of HT_.out (by kernel_rfl)) ?_
   try go_wp2_with (first | ((with_reducible refine gate_callee (f := 72) rfl ?_); refine goesL_ (some 16) rfl rfl Try.func72 (by kernel_rfl) rfl #[] rfl (by (try simp only [List.map_toArray, List.map_cons, List.map_nil]); first | done | rfl) ?_; (with_reducible refine (span_UAll.calls  t576 t577 _ A17.out).mono ?_); rintro e w21 ⟨rfl, hb⟩; refine ⟨_, rfl, ?_⟩; replace BK574 := bb_ hb BK574; replace BK575 := bb_ hb BK575; replace HB := bl_ hb; (try clear hb); (try clear hb2); (try clear hk); (try clear hi); have hnb22 := NB575_574.out; have hnc22 := NB574_575.out; have hcz23_0 := c0_ BK575; have hcz23_1 := c1_ BK575; have hfz23_0 := fz_ BK575 0; have hfz23_1 := fz_ BK575 1))
   refine bodyPost_ret (results_cell_row rfl _ _ gb575 26 #[.int .u64 t576, .int .u64 t577] (0, 0) _ rfl (by (with_reducible repeat (first | apply bN_ | apply bD_ | apply bA_)); refine blk_put (cs := #[.int .u64 t576, .int .u64 0]) ?_ 1 _ rfl; (with_reducible repeat (first | apply bN_ | apply bD_ | apply bA_)); refine blk_put (cs := #[.int .u64 0, .int .u64 0]) ?_ 0 _ rfl; exact bk_) Try.underlying26 rfl (by kernel_rfl)) rfl ?_
   exact ⟨by first | rfl | (simp [errW_none, errW_some] <;> rfl) | (simp only [← hji4, ← hji6]; first | rfl | (simp [errW_none, errW_some] <;> rfl)) | (simp [*, errW_none, errW_some] <;> rfl), bz_⟩
 ·rw [if_neg c3] at H
  exact absurd H (by simp)

end Go.Proofs.Ytnephcecobocdaa.PA
