-- PRINTED by print.py (a twelfth state) out of the translation. Not trusted: Lean checks it.
import Derived.Test.YtnephcecobocdaaWTab
import Derived.Test.YtnephcecobocdaaPA0
import Derived.Test.YtnephcecobocdaaSq
import Derived.Test.YtnephcecobocdaaPA6
namespace Go.Proofs.Ytnephcecobocdaa.PA
open Go.RowKit Go.Proofs.YtnephcecobocdaaW.PrintWords Go.Proofs.YtnephcecobocdaaW.PrintLast Go.Proofs.YtnephcecobocdaaW.PrintMore
attribute [local go_sem] max2_int min2_int max_two min_two max_three min_three max_four min_four   -- for this text's walks alone
set_option linter.unusedVariables false
set_option linter.unusedSimpArgs false

/-! ### span_SArsh: function 21 -/
def span_SArsh.f (a0_0 : Int) (a0_1 : Int) (a1 : Int) : Option (Int × Int) := if 0 ≤ (Go.bits .and .i64 a1 63) then (some (shr .i64 a0_0 (Go.bits .and .i64 a1 63), shr .i64 a0_1 (Go.bits .and .i64 a1 63))) else (none)
def span_SArsh.T2 : Bool × List (List Nat × List Nat) := (true, [([], []), ([0], [0]), ([], []), ([1, 2], [1, 2]), ([], []), ([4], [4]), ([], []), ([5, 6], [5, 6]), ([3, 7], [3, 7]), ([8, 0, 1, 2, 3, 4, 5, 6, 7, 8], [8])])
def span_SArsh.B2 : List Nat := [0, 1, 0, 7, 0, 16, 0, 112, 255, 511]
theorem span_SArsh.tab2 : rtab .any (opsOf Try.f21 2) = span_SArsh.T2 := by kernel_rfl
theorem span_SArsh.bits2 : waitsOk span_SArsh.T2.2 span_SArsh.B2 = true := by kernel_rfl
set_option maxHeartbeats 8000000 in
set_option maxRecDepth 100000 in
theorem span_SArsh.calls (a0_0 : Int) (a0_1 : Int) (a1 : Int) (r1 : Int) (r2 : Int) (w : World) (h : span_SArsh.f a0_0 a0_1 a1 = some (r1, r2)) :
 Calls Try.prog 21 #[.agg #[.int .i64 a0_0, .int .i64 a0_1], .int .i64 a1] w fun e w' => e = .returned (.agg #[.int .i64 r1, .int .i64 r2]) ∧ Below w.heap.size w w' := by
 have hu28 := Try.underlying28
 have HB := Aside0.mk (Below.refl w.heap.size w)
 have H : (if 0 ≤ (Go.bits .and .i64 a1 63) then (some (shr .i64 a0_0 (Go.bits .and .i64 a1 63), shr .i64 a0_1 (Go.bits .and .i64 a1 63))) else (none)) = some (r1, r2) := h
 clear h
 by_cases c3 : 0 ≤ (Go.bits .and .i64 a1 63)
 ·rw [if_pos c3] at H
  have c3b0 := eq_true c3
  have c3b1 : decide (0 ≤ (Go.bits .and .i64 a1 63)) = true := decide_eq_true c3
  clear c3
  obtain ⟨ji4, hji4⟩ : ∃ j_ : Int, (shr .i64 a0_0 (Go.bits .and .i64 a1 63)) = j_ := ⟨_, rfl⟩
  replace H : (some (ji4, shr .i64 a0_1 (Go.bits .and .i64 a1 63))) = some (r1, r2) := by first | (rw [hji4] at H; exact H) | (simp only [hji4] at H ⊢; exact H)
  have hji4_ : (a0_0 / 2 ^ min (Go.bits .and .i64 a1 63).toNat 64) = ji4 := hji4
  have hji4z : (Go.bits .and .i64 a1 63) ≤ 64 → (a0_0 / 2 ^ (Go.bits .and .i64 a1 63).toNat) = ji4 := shr_small hji4
  have c5b0 := eq_true (of_decide_eq_true (by first | (with_reducible assumption) | assumption) : 0 ≤ (Go.bits .and .i64 a1 63))
  obtain ⟨ji6, hji6⟩ : ∃ j_ : Int, (shr .i64 a0_1 (Go.bits .and .i64 a1 63)) = j_ := ⟨_, rfl⟩
  replace H : (some (ji4, ji6)) = some (r1, r2) := by first | (rw [hji6] at H; exact H) | (simp only [hji6] at H ⊢; exact H)
  have hji6_ : (a0_1 / 2 ^ min (Go.bits .and .i64 a1 63).toNat 64) = ji6 := hji6
  have hji6z : (Go.bits .and .i64 a1 63) ≤ 64 → (a0_1 / 2 ^ (Go.bits .and .i64 a1 63).toNat) = ji6 := shr_small hji6
  simp only [Option.some.injEq, Prod.mk.injEq] at H
  obtain ⟨rfl, rfl⟩ := H
  go_enter Try.func21, Try.ntmps21
  try go_wp2_with (first | ((with_reducible refine gate_dst (N := 2) rfl ?_); refine bx_ 2 #[.int .i64 a0_0, .int .i64 a0_1] 28 ?_; intro gb209 hg w7 BK209 hb; have GW209 := bg_ hg; have GE209 := GW209; replace HB := bl_ hb; clear hb hg) | ((with_reducible refine gate_dst (N := 4) rfl ?_); refine bx_ 4 #[.int .i64 0, .int .i64 0] 28 ?_; intro gb210 hg w8 BK210 hb; have GW210 := bg_ hg; have GE210 := GW210; have NB209_210 := bm_ hg BK209; have NB210_209 := bn_ hg BK209; replace BK209 := bb_ hb BK209; replace HB := bl_ hb; clear hb hg))
  replace BK209 := Aside0.mk (blk_drew BK209.out)
  replace BK210 := Aside0.mk (blk_drew BK210.out)
  replace HB := Aside0.mk (below_drew1 HB.out)
  refine start_ (n := 10) (S := fun w' => w'.cell? ⟨gb209, 0, none⟩ = some (.int .i64 a0_0) ∧ w'.cell? ⟨gb209, 1, none⟩ = some (.int .i64 a0_1)) (ds := []) #[n_,n_,n_,n_,n_,n_,n_,n_,n_,n_] (by kernel_rfl) rfl rfl ⟨c0_ BK209, c1_ BK209⟩ (fun hHeld => ?_); refine with_tabW span_SArsh.tab2 span_SArsh.bits2 (fun HT_ HW_ => ?_)
  generalize w8.drew = w9 at BK209 BK210 HB hHeld ⊢
  refine pq_ 0 7 #[y_,n_,n_,n_,n_,n_,n_,n_,n_,n_] ?_
  refine pq_ 2 9 #[y_,n_,y_,n_,n_,n_,n_,n_,n_,n_] ?_
  refine pq_ 4 11 #[y_,n_,y_,n_,y_,n_,n_,n_,n_,n_] ?_
  refine pq_ 6 13 #[y_,n_,y_,n_,y_,n_,y_,n_,n_,n_] ?_
  refine tq0_ 1 8 #[y_,y_,y_,n_,y_,n_,y_,n_,n_,n_] hHeld ?_
  refine pq_ 3 10 #[y_,y_,y_,y_,y_,n_,y_,n_,n_,n_] ?_
  refine tq0_ 5 12 #[y_,y_,y_,y_,y_,y_,y_,n_,n_,n_] hHeld ?_
  refine pq_ 7 14 #[y_,y_,y_,y_,y_,y_,y_,y_,n_,n_] ?_
  refine pq_ 8 15 #[y_,y_,y_,y_,y_,y_,y_,y_,y_,n_] ?_
  refine one_ (i := 9) (N := none) #[y_,y_,y_,y_,y_,y_,y_,y_,y_,y_] rfl rfl (one_of HT_.out (by kernel_rfl)) (by decide) (fun K hK => ?_)
  have hs10 := c0_ BK210
  have hfs10 := fz_ BK210 0
  have hns10_0 := NB209_210.out
  have hms10_0 := NB210_209.out
  have hs11 := c1_ BK210
  have hfs11 := fz_ BK210 1
  have hns11_0 := NB209_210.out
  have hms11_0 := NB210_209.out
  refine skip_ (w1 := ?_) (by rfl) rfl ?_ ?_
  rotate_left
  ·go_simp
   rfl
  refine hK.out _ _ ⟨((cell_far (p := ⟨gb210, _, none⟩) NB209_210.out _).trans (((cell_far (p := ⟨gb210, _, none⟩) NB209_210.out _).trans (hHeld.1)))), ((cell_far (p := ⟨gb210, _, none⟩) NB209_210.out _).trans (((cell_far (p := ⟨gb210, _, none⟩) NB209_210.out _).trans (hHeld.2))))⟩ (fun hHeld => ?_)
  clear hK K
  refine done_ (done_of HT_.out (by kernel_rfl)) ?_
  try go_wp2
  refine bodyPost_ret (results_cell_row rfl _ _ gb210 28 #[.int .i64 ji4, .int .i64 ji6] (0, 0) _ rfl (by (with_reducible repeat (first | apply bN_ | apply bD_ | apply bA_)); refine blk_put (cs := #[.int .i64 ji4, .int .i64 0]) ?_ 1 _ rfl; (with_reducible repeat (first | apply bN_ | apply bD_ | apply bA_)); refine blk_put (cs := #[.int .i64 0, .int .i64 0]) ?_ 0 _ rfl; exact bk_) Try.underlying28 rfl (by kernel_rfl)) rfl ?_
  exact ⟨by first | rfl | (simp [errW_none, errW_some] <;> rfl) | (simp only [← hji4, ← hji6]; first | rfl | (simp [errW_none, errW_some] <;> rfl)) | (simp [*, errW_none, errW_some] <;> rfl), bz_⟩
 ·rw [if_neg c3] at H
  exact absurd H (by simp)

/-! ### span_ToU: function 22 -/
def span_ToU.f (a0_0 : Int) (a0_1 : Int) : Option (Int × Int) := if ((decide (a0_0 < 0)) != (decide (a0_1 < 0))) = true then ((span_UAll.f).bind fun bt213 => (some (bt213.1, bt213.2))) else (some (IntKind.u64.wrap (a0_0), IntKind.u64.wrap (a0_1)))
set_option maxHeartbeats 8000000 in
set_option maxRecDepth 100000 in
theorem span_ToU.calls (a0_0 : Int) (a0_1 : Int) (r1 : Int) (r2 : Int) (w : World) (h : span_ToU.f a0_0 a0_1 = some (r1, r2)) :
 Calls Try.prog 22 #[.agg #[.int .i64 a0_0, .int .i64 a0_1]] w fun e w' => e = .returned (.agg #[.int .u64 r1, .int .u64 r2]) ∧ Below w.heap.size w w' := by
 have hu28 := Try.underlying28
 have hu26 := Try.underlying26
 have HB := Aside0.mk (Below.refl w.heap.size w)
 have H : (if ((decide (a0_0 < 0)) != (decide (a0_1 < 0))) = true then ((span_UAll.f).bind fun bt213 => (some (bt213.1, bt213.2))) else (some (IntKind.u64.wrap (a0_0), IntKind.u64.wrap (a0_1)))) = some (r1, r2) := h
 clear h
 by_cases c2 : ((decide (a0_0 < 0)) != (decide (a0_1 < 0))) = true
 ·rw [if_pos c2] at H
  have c2b0 : ((decide (a0_0 < 0)) != (decide (a0_1 < 0))) = true := c2
  (try (have c2b1 : decide ((decide (a0_0 < 0)) = (decide (a0_1 < 0))) = false := by simpa using c2))
  (try (have c2b2 : ((decide (a0_0 < 0)) == (decide (a0_1 < 0))) = false := by simpa using c2))
  (try (have c2b3 : ¬ ((decide (a0_0 < 0)) = (decide (a0_1 < 0))) := by simpa using c2))
  clear c2
  replace H := Option.bind_eq_some_iff.mp H
  obtain ⟨⟨t213, t214⟩, A30, H⟩ := H
  replace H : (some (t213, t214)) = some (r1, r2) := H
  have A3 := Aside0.mk A30
  clear A30
  simp only [Option.some.injEq, Prod.mk.injEq] at H
  obtain ⟨rfl, rfl⟩ := H
  go_enter Try.func22, Try.ntmps22
  go_wp2_with (first | ((with_reducible refine gate_dst (N := 1) rfl ?_); refine bx_ 1 #[.int .i64 a0_0, .int .i64 a0_1] 28 ?_; intro gb211 hg w4 BK211 hb; have GW211 := bg_ hg; have GE211 := GW211; replace HB := bl_ hb; clear hb hg) | ((with_reducible refine gate_dst (N := 2) rfl ?_); refine bx_ 2 #[.int .u64 0, .int .u64 0] 26 ?_; intro gb212 hg w5 BK212 hb; have GW212 := bg_ hg; have GE212 := GW212; have NB211_212 := bm_ hg BK211; have NB212_211 := bn_ hg BK211; replace BK211 := bb_ hb BK211; replace HB := bl_ hb; clear hb hg; have hnb6 := NB211_212.out; have hnc6 := NB212_211.out; have hcz7_0 := c0_ BK211; have hcz7_1 := c1_ BK211; have hfz7_0 := fz_ BK211 0; have hfz7_1 := fz_ BK211 1) | ((with_reducible refine gate_callee (f := 72) rfl ?_); refine goesL_ (some 10) rfl rfl Try.func72 (by kernel_rfl) rfl #[] rfl (by (try simp only [List.map_toArray, List.map_cons, List.map_nil]); first | done | rfl) ?_; (with_reducible refine (span_UAll.calls  t213 t214 _ A3.out).mono ?_); rintro e w8 ⟨rfl, hb⟩; refine ⟨_, rfl, ?_⟩; replace BK211 := bb_ hb BK211; replace BK212 := bb_ hb BK212; replace HB := bl_ hb; (try clear hb); (try clear hb2); (try clear hk); (try clear hi); have hcz9_0 := c0_ BK212; have hcz9_1 := c1_ BK212; have hfz9_0 := fz_ BK212 0; have hfz9_1 := fz_ BK212 1))
  refine bodyPost_ret (results_cell_row rfl _ _ gb212 26 #[.int .u64 t213, .int .u64 t214] (0, 0) _ rfl (by (with_reducible repeat (first | apply bN_ | apply bD_ | apply bA_)); refine blk_put (cs := #[.int .u64 t213, .int .u64 0]) ?_ 1 _ rfl; (with_reducible repeat (first | apply bN_ | apply bD_ | apply bA_)); refine blk_put (cs := #[.int .u64 0, .int .u64 0]) ?_ 0 _ rfl; exact bk_) Try.underlying26 rfl (by kernel_rfl)) rfl ?_
  exact ⟨vv_, bz_⟩
 ·rw [if_neg c2] at H
  have c2b0 : ((decide (a0_0 < 0)) != (decide (a0_1 < 0))) = false := by simpa using c2
  (try (have c2b1 : decide ((decide (a0_0 < 0)) = (decide (a0_1 < 0))) = true := by simpa using c2))
  (try (have c2b2 : ((decide (a0_0 < 0)) == (decide (a0_1 < 0))) = true := by simpa using c2))
  clear c2
  simp only [Option.some.injEq, Prod.mk.injEq] at H
  obtain ⟨rfl, rfl⟩ := H
  go_enter Try.func22, Try.ntmps22
  go_wp2_with (first | ((with_reducible refine gate_dst (N := 1) rfl ?_); refine bx_ 1 #[.int .i64 a0_0, .int .i64 a0_1] 28 ?_; intro gb211 hg w10 BK211 hb; have GW211 := bg_ hg; have GE211 := GW211; replace HB := bl_ hb; clear hb hg) | ((with_reducible refine gate_dst (N := 2) rfl ?_); refine bx_ 2 #[.int .u64 0, .int .u64 0] 26 ?_; intro gb212 hg w11 BK212 hb; have GW212 := bg_ hg; have GE212 := GW212; have NB211_212 := bm_ hg BK211; have NB212_211 := bn_ hg BK211; replace BK211 := bb_ hb BK211; replace HB := bl_ hb; clear hb hg; have hnb12 := NB211_212.out; have hnc12 := NB212_211.out; have hcz13_0 := c0_ BK211; have hcz13_1 := c1_ BK211; have hfz13_0 := fz_ BK211 0; have hfz13_1 := fz_ BK211 1; have hcz14_0 := c0_ BK212; have hcz14_1 := c1_ BK212; have hfz14_0 := fz_ BK212 0; have hfz14_1 := fz_ BK212 1))
  refine bodyPost_ret (results_cell_row rfl _ _ gb212 26 #[.int .u64 (IntKind.u64.wrap (a0_0)), .int .u64 (IntKind.u64.wrap (a0_1))] (0, 0) _ rfl (by (with_reducible repeat (first | apply bN_ | apply bD_ | apply bA_)); refine blk_put (cs := #[.int .u64 (IntKind.u64.wrap (a0_0)), .int .u64 0]) ?_ 1 _ rfl; (with_reducible repeat (first | apply bN_ | apply bD_ | apply bA_)); refine blk_put (cs := #[.int .u64 0, .int .u64 0]) ?_ 0 _ rfl; exact bk_) Try.underlying26 rfl (by kernel_rfl)) rfl ?_
  exact ⟨vv_, bz_⟩

/-! ### span_meet_uint64: function 81 -/
def span_meet_uint64.f (a0 : Int) (a1 : Int) (a2 : Int) (a3 : Int) : Option (Int × Int × Bool) := some (mx a0 a2, mn a1 a3, decide ((mx a0 a2) ≤ (mn a1 a3)))
set_option maxHeartbeats 8000000 in
set_option maxRecDepth 100000 in
theorem span_meet_uint64.calls (a0 : Int) (a1 : Int) (a2 : Int) (a3 : Int) (r1 : Int) (r2 : Int) (r3 : Bool) (w : World) (h : span_meet_uint64.f a0 a1 a2 a3 = some (r1, r2, r3)) :
 Calls Try.prog 81 #[.int .u64 a0, .int .u64 a1, .int .u64 a2, .int .u64 a3] w fun e w' => e = .returned (.tuple #[.int .u64 r1, .int .u64 r2, .bool r3]) ∧ Below w.heap.size w w' := by
 have HB := Aside0.mk (Below.refl w.heap.size w)
 have H : (some (mx a0 a2, mn a1 a3, decide ((mx a0 a2) ≤ (mn a1 a3)))) = some (r1, r2, r3) := h
 clear h
 obtain ⟨ji5, hji5⟩ : ∃ j_ : Int, (mx a0 a2) = j_ := ⟨_, rfl⟩
 replace H : (some (ji5, mn a1 a3, decide ((ji5) ≤ (mn a1 a3)))) = some (r1, r2, r3) := by first | (rw [hji5] at H; exact H) | (simp only [hji5] at H ⊢; exact H)
 have hji5_ : (if a0 < a2 then a2 else a0) = ji5 := hji5
 obtain ⟨ji6, hji6⟩ : ∃ j_ : Int, (mn a1 a3) = j_ := ⟨_, rfl⟩
 replace H : (some (ji5, ji6, decide ((ji5) ≤ (ji6)))) = some (r1, r2, r3) := by first | (rw [hji6] at H; exact H) | (simp only [hji6] at H ⊢; exact H)
 have hji6_ : (if a3 < a1 then a3 else a1) = ji6 := hji6
 simp only [Option.some.injEq, Prod.mk.injEq] at H
 obtain ⟨rfl, rfl, rfl⟩ := H
 go_enter Try.func81, Try.ntmps81
 go_wp2
 go_ret3
 exact ⟨by first | rfl | (simp [errW_none, errW_some] <;> rfl) | (simp only [← hji5, ← hji6]; first | rfl | (simp [errW_none, errW_some] <;> rfl)) | (simp [*, errW_none, errW_some] <;> rfl), bz_⟩

/-! ### span_UMeet: function 24 -/
def span_UMeet.f (a0_0 : Int) (a0_1 : Int) (a1_0 : Int) (a1_1 : Int) : Option (Int × Int × Bool) := (span_meet_uint64.f a0_0 a0_1 a1_0 a1_1).bind fun bt246 => (if bt246.2.2 = true then (some (bt246.1, bt246.2.1, true)) else (some (0, 0, false)))
set_option maxHeartbeats 8000000 in
set_option maxRecDepth 100000 in
theorem span_UMeet.calls (a0_0 : Int) (a0_1 : Int) (a1_0 : Int) (a1_1 : Int) (r1 : Int) (r2 : Int) (r3 : Bool) (w : World) (h : span_UMeet.f a0_0 a0_1 a1_0 a1_1 = some (r1, r2, r3)) :
 Calls Try.prog 24 #[.agg #[.int .u64 a0_0, .int .u64 a0_1], .agg #[.int .u64 a1_0, .int .u64 a1_1]] w fun e w' => e = .returned (.tuple #[.agg #[.int .u64 r1, .int .u64 r2], .bool r3]) ∧ Below w.heap.size w w' := by
 have hu26 := Try.underlying26
 have HB := Aside0.mk (Below.refl w.heap.size w)
 have H : ((span_meet_uint64.f a0_0 a0_1 a1_0 a1_1).bind fun bt246 => (if bt246.2.2 = true then (some (bt246.1, bt246.2.1, true)) else (some (0, 0, false)))) = some (r1, r2, r3) := h
 clear h
 replace H := Option.bind_eq_some_iff.mp H
 obtain ⟨⟨t246, t247, t248⟩, A30, H⟩ := H
 replace H : (if t248 = true then (some (t246, t247, true)) else (some (0, 0, false))) = some (r1, r2, r3) := H
 have A3 := Aside0.mk A30
 clear A30
 by_cases c4 : t248 = true
 ·subst c4
  have H1 : (some (t246, t247, true)) = some (r1, r2, r3) := by rw [if_pos rfl] at H; exact H
  clear H
  have H := H1
  clear H1
  simp only [Option.some.injEq, Prod.mk.injEq] at H
  obtain ⟨rfl, rfl, rfl⟩ := H
  go_enter Try.func24, Try.ntmps24
  go_wp2_with (first | ((with_reducible refine gate_dst (N := 2) rfl ?_); refine bx_ 2 #[.int .u64 a0_0, .int .u64 a0_1] 26 ?_; intro gb243 hg w5 BK243 hb; have GW243 := bg_ hg; have GE243 := GW243; replace HB := bl_ hb; clear hb hg) | ((with_reducible refine gate_dst (N := 3) rfl ?_); refine bx_ 3 #[.int .u64 a1_0, .int .u64 a1_1] 26 ?_; intro gb244 hg w6 BK244 hb; have GW244 := bg_ hg; have GE244 := GW244; have NB243_244 := bm_ hg BK243; have NB244_243 := bn_ hg BK243; replace BK243 := bb_ hb BK243; replace HB := bl_ hb; clear hb hg) | ((with_reducible refine gate_dst (N := 4) rfl ?_); refine bx_ 4 #[.int .u64 0, .int .u64 0] 26 ?_; intro gb245 hg w7 BK245 hb; have GW245 := bg_ hg; have GE245 := GW245; have NB243_245 := bm_ hg BK243; have NB245_243 := bn_ hg BK243; have NB244_245 := bm_ hg BK244; have NB245_244 := bn_ hg BK244; replace BK243 := bb_ hb BK243; replace BK244 := bb_ hb BK244; replace HB := bl_ hb; clear hb hg; have hnb8 := NB243_244.out; have hnc8 := NB244_243.out; have hnb9 := NB243_245.out; have hnc9 := NB245_243.out; have hcz10_0 := c0_ BK243; have hcz10_1 := c1_ BK243; have hfz10_0 := fz_ BK243 0; have hfz10_1 := fz_ BK243 1; have hnb11 := NB244_245.out; have hnc11 := NB245_244.out; have hcz12_0 := c0_ BK244; have hcz12_1 := c1_ BK244; have hfz12_0 := fz_ BK244 0; have hfz12_1 := fz_ BK244 1) | ((with_reducible refine gate_callee (f := 81) rfl ?_); refine goesL_ (some 18) rfl rfl Try.func81 (by kernel_rfl) rfl #[.int .u64 a0_0, .int .u64 a0_1, .int .u64 a1_0, .int .u64 a1_1] rfl (by (try simp only [List.map_toArray, List.map_cons, List.map_nil]); first | done | rfl) ?_; (with_reducible refine (span_meet_uint64.calls a0_0 a0_1 a1_0 a1_1 t246 t247 true _ A3.out).mono ?_); rintro e w13 ⟨rfl, hb⟩; refine ⟨_, rfl, ?_⟩; replace BK243 := bb_ hb BK243; replace BK244 := bb_ hb BK244; replace BK245 := bb_ hb BK245; replace HB := bl_ hb; (try clear hb); (try clear hb2); (try clear hk); (try clear hi); have hcz14_0 := c0_ BK245; have hcz14_1 := c1_ BK245; have hfz14_0 := fz_ BK245 0; have hfz14_1 := fz_ BK245 1))
  refine bodyPost_ret (results_ct rfl _ _ gb245 26 #[.int .u64 t246, .int .u64 t247] (0, 0) _ rfl (by (with_reducible repeat (first | apply bN_ | apply bD_ | apply bA_)); refine blk_put (cs := #[.int .u64 t246, .int .u64 0]) ?_ 1 _ rfl; (with_reducible repeat (first | apply bN_ | apply bD_ | apply bA_)); refine blk_put (cs := #[.int .u64 0, .int .u64 0]) ?_ 0 _ rfl; exact bk_) Try.underlying26 rfl (by kernel_rfl)) rfl ?_
  exact ⟨vv_, bz_⟩
 ·replace c4 := Bool.eq_false_iff.mpr c4
  subst c4
  have H1 : (some (0, 0, false)) = some (r1, r2, r3) := by rw [if_neg (show ¬ (false = true) by decide)] at H; exact H
  clear H
  have H := H1
  clear H1
  simp only [Option.some.injEq, Prod.mk.injEq] at H
  obtain ⟨rfl, rfl, rfl⟩ := H
  go_enter Try.func24, Try.ntmps24
  go_wp2_with (first | ((with_reducible refine gate_dst (N := 2) rfl ?_); refine bx_ 2 #[.int .u64 a0_0, .int .u64 a0_1] 26 ?_; intro gb243 hg w15 BK243 hb; have GW243 := bg_ hg; have GE243 := GW243; replace HB := bl_ hb; clear hb hg) | ((with_reducible refine gate_dst (N := 3) rfl ?_); refine bx_ 3 #[.int .u64 a1_0, .int .u64 a1_1] 26 ?_; intro gb244 hg w16 BK244 hb; have GW244 := bg_ hg; have GE244 := GW244; have NB243_244 := bm_ hg BK243; have NB244_243 := bn_ hg BK243; replace BK243 := bb_ hb BK243; replace HB := bl_ hb; clear hb hg) | ((with_reducible refine gate_dst (N := 4) rfl ?_); refine bx_ 4 #[.int .u64 0, .int .u64 0] 26 ?_; intro gb245 hg w17 BK245 hb; have GW245 := bg_ hg; have GE245 := GW245; have NB243_245 := bm_ hg BK243; have NB245_243 := bn_ hg BK243; have NB244_245 := bm_ hg BK244; have NB245_244 := bn_ hg BK244; replace BK243 := bb_ hb BK243; replace BK244 := bb_ hb BK244; replace HB := bl_ hb; clear hb hg; have hnb18 := NB243_244.out; have hnc18 := NB244_243.out; have hnb19 := NB243_245.out; have hnc19 := NB245_243.out; have hcz20_0 := c0_ BK243; have hcz20_1 := c1_ BK243; have hfz20_0 := fz_ BK243 0; have hfz20_1 := fz_ BK243 1; have hnb21 := NB244_245.out; have hnc21 := NB245_244.out; have hcz22_0 := c0_ BK244; have hcz22_1 := c1_ BK244; have hfz22_0 := fz_ BK244 0; have hfz22_1 := fz_ BK244 1) | ((with_reducible refine gate_callee (f := 81) rfl ?_); refine goesL_ (some 18) rfl rfl Try.func81 (by kernel_rfl) rfl #[.int .u64 a0_0, .int .u64 a0_1, .int .u64 a1_0, .int .u64 a1_1] rfl (by (try simp only [List.map_toArray, List.map_cons, List.map_nil]); first | done | rfl) ?_; (with_reducible refine (span_meet_uint64.calls a0_0 a0_1 a1_0 a1_1 t246 t247 false _ A3.out).mono ?_); rintro e w23 ⟨rfl, hb⟩; refine ⟨_, rfl, ?_⟩; replace BK243 := bb_ hb BK243; replace BK244 := bb_ hb BK244; replace BK245 := bb_ hb BK245; replace HB := bl_ hb; (try clear hb); (try clear hb2); (try clear hk); (try clear hi); have hcz24_0 := c0_ BK245; have hcz24_1 := c1_ BK245; have hfz24_0 := fz_ BK245 0; have hfz24_1 := fz_ BK245 1))
  refine bodyPost_ret (results_ct rfl _ _ gb245 26 #[.int .u64 0, .int .u64 0] (0, 0) _ rfl (by (with_reducible repeat (first | apply bN_ | apply bD_ | apply bA_)); refine blk_put (cs := #[.int .u64 0, .int .u64 0]) ?_ 1 _ rfl; (with_reducible repeat (first | apply bN_ | apply bD_ | apply bA_)); refine blk_put (cs := #[.int .u64 0, .int .u64 0]) ?_ 0 _ rfl; exact bk_) Try.underlying26 rfl (by kernel_rfl)) rfl ?_
  exact ⟨vv_, bz_⟩

/-! ### span_join_uint64: function 82 -/
def span_join_uint64.f (a0 : Int) (a1 : Int) (a2 : Int) (a3 : Int) : Option (Int × Int) := some (mn a0 a2, mx a1 a3)
set_option maxHeartbeats 8000000 in
set_option maxRecDepth 100000 in
theorem span_join_uint64.calls (a0 : Int) (a1 : Int) (a2 : Int) (a3 : Int) (r1 : Int) (r2 : Int) (w : World) (h : span_join_uint64.f a0 a1 a2 a3 = some (r1, r2)) :
 Calls Try.prog 82 #[.int .u64 a0, .int .u64 a1, .int .u64 a2, .int .u64 a3] w fun e w' => e = .returned (.tuple #[.int .u64 r1, .int .u64 r2]) ∧ Below w.heap.size w w' := by
 have HB := Aside0.mk (Below.refl w.heap.size w)
 have H : (some (mn a0 a2, mx a1 a3)) = some (r1, r2) := h
 clear h
 obtain ⟨ji5, hji5⟩ : ∃ j_ : Int, (mn a0 a2) = j_ := ⟨_, rfl⟩
 replace H : (some (ji5, mx a1 a3)) = some (r1, r2) := by first | (rw [hji5] at H; exact H) | (simp only [hji5] at H ⊢; exact H)
 have hji5_ : (if a2 < a0 then a2 else a0) = ji5 := hji5
 obtain ⟨ji6, hji6⟩ : ∃ j_ : Int, (mx a1 a3) = j_ := ⟨_, rfl⟩
 replace H : (some (ji5, ji6)) = some (r1, r2) := by first | (rw [hji6] at H; exact H) | (simp only [hji6] at H ⊢; exact H)
 have hji6_ : (if a1 < a3 then a3 else a1) = ji6 := hji6
 simp only [Option.some.injEq, Prod.mk.injEq] at H
 obtain ⟨rfl, rfl⟩ := H
 go_enter Try.func82, Try.ntmps82
 go_wp2
 go_ret2
 exact ⟨by first | rfl | (simp [errW_none, errW_some] <;> rfl) | (simp only [← hji5, ← hji6]; first | rfl | (simp [errW_none, errW_some] <;> rfl)) | (simp [*, errW_none, errW_some] <;> rfl), bz_⟩

/-! ### span_UJoin: function 25 -/
def span_UJoin.f (a0_0 : Int) (a0_1 : Int) (a1_0 : Int) (a1_1 : Int) : Option (Int × Int) := (span_join_uint64.f a0_0 a0_1 a1_0 a1_1).bind fun bt252 => (some (bt252.1, bt252.2))
set_option maxHeartbeats 8000000 in
set_option maxRecDepth 100000 in
theorem span_UJoin.calls (a0_0 : Int) (a0_1 : Int) (a1_0 : Int) (a1_1 : Int) (r1 : Int) (r2 : Int) (w : World) (h : span_UJoin.f a0_0 a0_1 a1_0 a1_1 = some (r1, r2)) :
 Calls Try.prog 25 #[.agg #[.int .u64 a0_0, .int .u64 a0_1], .agg #[.int .u64 a1_0, .int .u64 a1_1]] w fun e w' => e = .returned (.agg #[.int .u64 r1, .int .u64 r2]) ∧ Below w.heap.size w w' := by
 have hu26 := Try.underlying26
 have HB := Aside0.mk (Below.refl w.heap.size w)
 have H : ((span_join_uint64.f a0_0 a0_1 a1_0 a1_1).bind fun bt252 => (some (bt252.1, bt252.2))) = some (r1, r2) := h
 clear h
 replace H := Option.bind_eq_some_iff.mp H
 obtain ⟨⟨t252, t253⟩, A30, H⟩ := H
 replace H : (some (t252, t253)) = some (r1, r2) := H
 have A3 := Aside0.mk A30
 clear A30
 simp only [Option.some.injEq, Prod.mk.injEq] at H
 obtain ⟨rfl, rfl⟩ := H
 go_enter Try.func25, Try.ntmps25
 go_wp2_with (first | ((with_reducible refine gate_dst (N := 2) rfl ?_); refine bx_ 2 #[.int .u64 a0_0, .int .u64 a0_1] 26 ?_; intro gb249 hg w4 BK249 hb; have GW249 := bg_ hg; have GE249 := GW249; replace HB := bl_ hb; clear hb hg) | ((with_reducible refine gate_dst (N := 3) rfl ?_); refine bx_ 3 #[.int .u64 a1_0, .int .u64 a1_1] 26 ?_; intro gb250 hg w5 BK250 hb; have GW250 := bg_ hg; have GE250 := GW250; have NB249_250 := bm_ hg BK249; have NB250_249 := bn_ hg BK249; replace BK249 := bb_ hb BK249; replace HB := bl_ hb; clear hb hg) | ((with_reducible refine gate_dst (N := 4) rfl ?_); refine bx_ 4 #[.int .u64 0, .int .u64 0] 26 ?_; intro gb251 hg w6 BK251 hb; have GW251 := bg_ hg; have GE251 := GW251; have NB249_251 := bm_ hg BK249; have NB251_249 := bn_ hg BK249; have NB250_251 := bm_ hg BK250; have NB251_250 := bn_ hg BK250; replace BK249 := bb_ hb BK249; replace BK250 := bb_ hb BK250; replace HB := bl_ hb; clear hb hg; have hnb7 := NB249_250.out; have hnc7 := NB250_249.out; have hnb8 := NB249_251.out; have hnc8 := NB251_249.out; have hcz9_0 := c0_ BK249; have hcz9_1 := c1_ BK249; have hfz9_0 := fz_ BK249 0; have hfz9_1 := fz_ BK249 1; have hnb10 := NB250_251.out; have hnc10 := NB251_250.out; have hcz11_0 := c0_ BK250; have hcz11_1 := c1_ BK250; have hfz11_0 := fz_ BK250 0; have hfz11_1 := fz_ BK250 1) | ((with_reducible refine gate_callee (f := 82) rfl ?_); refine goesL_ (some 16) rfl rfl Try.func82 (by kernel_rfl) rfl #[.int .u64 a0_0, .int .u64 a0_1, .int .u64 a1_0, .int .u64 a1_1] rfl (by (try simp only [List.map_toArray, List.map_cons, List.map_nil]); first | done | rfl) ?_; (with_reducible refine (span_join_uint64.calls a0_0 a0_1 a1_0 a1_1 t252 t253 _ A3.out).mono ?_); rintro e w12 ⟨rfl, hb⟩; refine ⟨_, rfl, ?_⟩; replace BK249 := bb_ hb BK249; replace BK250 := bb_ hb BK250; replace BK251 := bb_ hb BK251; replace HB := bl_ hb; (try clear hb); (try clear hb2); (try clear hk); (try clear hi); have hcz13_0 := c0_ BK251; have hcz13_1 := c1_ BK251; have hfz13_0 := fz_ BK251 0; have hfz13_1 := fz_ BK251 1))
 refine bodyPost_ret (results_cell_row rfl _ _ gb251 26 #[.int .u64 t252, .int .u64 t253] (0, 0) _ rfl (by (with_reducible repeat (first | apply bN_ | apply bD_ | apply bA_)); refine blk_put (cs := #[.int .u64 t252, .int .u64 0]) ?_ 1 _ rfl; (with_reducible repeat (first | apply bN_ | apply bD_ | apply bA_)); refine blk_put (cs := #[.int .u64 0, .int .u64 0]) ?_ 0 _ rfl; exact bk_) Try.underlying26 rfl (by kernel_rfl)) rfl ?_
 exact ⟨vv_, bz_⟩

/-! ### span_UWithin: function 26 -/
def span_UWithin.f (a0_0 : Int) (a0_1 : Int) (a1_0 : Int) (a1_1 : Int) : Option (Bool) := if a1_0 ≤ a0_0 then (some (decide (a0_1 ≤ a1_1))) else (some false)
set_option maxHeartbeats 8000000 in
set_option maxRecDepth 100000 in
theorem span_UWithin.calls (a0_0 : Int) (a0_1 : Int) (a1_0 : Int) (a1_1 : Int) (r : Bool) (w : World) (h : span_UWithin.f a0_0 a0_1 a1_0 a1_1 = some r) :
 Calls Try.prog 26 #[.agg #[.int .u64 a0_0, .int .u64 a0_1], .agg #[.int .u64 a1_0, .int .u64 a1_1]] w fun e w' => e = .returned (.bool r) ∧ Below w.heap.size w w' := by
 have hu26 := Try.underlying26
 have HB := Aside0.mk (Below.refl w.heap.size w)
 have H : (if a1_0 ≤ a0_0 then (some (decide (a0_1 ≤ a1_1))) else (some false)) = some r := h
 clear h
 by_cases c3 : a1_0 ≤ a0_0
 ·rw [if_pos c3] at H
  have c3b0 : decide (a1_0 ≤ a0_0) = true := decide_eq_true c3
  clear c3
  obtain rfl := Option.some.inj H
  go_enter Try.func26, Try.ntmps26
  go_wp2_with (first | ((with_reducible refine gate_dst (N := 2) rfl ?_); refine bx_ 2 #[.int .u64 a0_0, .int .u64 a0_1] 26 ?_; intro gb254 hg w4 BK254 hb; have GW254 := bg_ hg; have GE254 := GW254; replace HB := bl_ hb; clear hb hg) | ((with_reducible refine gate_dst (N := 3) rfl ?_); refine bx_ 3 #[.int .u64 a1_0, .int .u64 a1_1] 26 ?_; intro gb255 hg w5 BK255 hb; have GW255 := bg_ hg; have GE255 := GW255; have NB254_255 := bm_ hg BK254; have NB255_254 := bn_ hg BK254; replace BK254 := bb_ hb BK254; replace HB := bl_ hb; clear hb hg; have hnb6 := NB255_254.out; have hnc6 := NB254_255.out; have hcz7_0 := c0_ BK255; have hcz7_1 := c1_ BK255; have hfz7_0 := fz_ BK255 0; have hfz7_1 := fz_ BK255 1; have hcz8_0 := c0_ BK254; have hcz8_1 := c1_ BK254; have hfz8_0 := fz_ BK254 0; have hfz8_1 := fz_ BK254 1))
  go_ret
  exact ⟨vv_, bz_⟩
 ·rw [if_neg c3] at H
  have c3b0 : decide (a1_0 ≤ a0_0) = false := decide_eq_false c3
  clear c3
  obtain rfl := Option.some.inj H
  go_enter Try.func26, Try.ntmps26
  go_wp2_with (first | ((with_reducible refine gate_dst (N := 2) rfl ?_); refine bx_ 2 #[.int .u64 a0_0, .int .u64 a0_1] 26 ?_; intro gb254 hg w9 BK254 hb; have GW254 := bg_ hg; have GE254 := GW254; replace HB := bl_ hb; clear hb hg) | ((with_reducible refine gate_dst (N := 3) rfl ?_); refine bx_ 3 #[.int .u64 a1_0, .int .u64 a1_1] 26 ?_; intro gb255 hg w10 BK255 hb; have GW255 := bg_ hg; have GE255 := GW255; have NB254_255 := bm_ hg BK254; have NB255_254 := bn_ hg BK254; replace BK254 := bb_ hb BK254; replace HB := bl_ hb; clear hb hg; have hnb11 := NB255_254.out; have hnc11 := NB254_255.out; have hcz12_0 := c0_ BK255; have hcz12_1 := c1_ BK255; have hfz12_0 := fz_ BK255 0; have hfz12_1 := fz_ BK255 1; have hcz13_0 := c0_ BK254; have hcz13_1 := c1_ BK254; have hfz13_0 := fz_ BK254 0; have hfz13_1 := fz_ BK254 1))
  go_ret
  exact ⟨vv_, bz_⟩

/-! ### span_meet_int64: function 83 -/
def span_meet_int64.f (a0 : Int) (a1 : Int) (a2 : Int) (a3 : Int) : Option (Int × Int × Bool) := some (mx a0 a2, mn a1 a3, decide ((mx a0 a2) ≤ (mn a1 a3)))
set_option maxHeartbeats 8000000 in
set_option maxRecDepth 100000 in
theorem span_meet_int64.calls (a0 : Int) (a1 : Int) (a2 : Int) (a3 : Int) (r1 : Int) (r2 : Int) (r3 : Bool) (w : World) (h : span_meet_int64.f a0 a1 a2 a3 = some (r1, r2, r3)) :
 Calls Try.prog 83 #[.int .i64 a0, .int .i64 a1, .int .i64 a2, .int .i64 a3] w fun e w' => e = .returned (.tuple #[.int .i64 r1, .int .i64 r2, .bool r3]) ∧ Below w.heap.size w w' := by
 have HB := Aside0.mk (Below.refl w.heap.size w)
 have H : (some (mx a0 a2, mn a1 a3, decide ((mx a0 a2) ≤ (mn a1 a3)))) = some (r1, r2, r3) := h
 clear h
 obtain ⟨ji5, hji5⟩ : ∃ j_ : Int, (mx a0 a2) = j_ := ⟨_, rfl⟩
 replace H : (some (ji5, mn a1 a3, decide ((ji5) ≤ (mn a1 a3)))) = some (r1, r2, r3) := by first | (rw [hji5] at H; exact H) | (simp only [hji5] at H ⊢; exact H)
 have hji5_ : (if a0 < a2 then a2 else a0) = ji5 := hji5
 obtain ⟨ji6, hji6⟩ : ∃ j_ : Int, (mn a1 a3) = j_ := ⟨_, rfl⟩
 replace H : (some (ji5, ji6, decide ((ji5) ≤ (ji6)))) = some (r1, r2, r3) := by first | (rw [hji6] at H; exact H) | (simp only [hji6] at H ⊢; exact H)
 have hji6_ : (if a3 < a1 then a3 else a1) = ji6 := hji6
 simp only [Option.some.injEq, Prod.mk.injEq] at H
 obtain ⟨rfl, rfl, rfl⟩ := H
 go_enter Try.func83, Try.ntmps83
 go_wp2
 go_ret3
 exact ⟨by first | rfl | (simp [errW_none, errW_some] <;> rfl) | (simp only [← hji5, ← hji6]; first | rfl | (simp [errW_none, errW_some] <;> rfl)) | (simp [*, errW_none, errW_some] <;> rfl), bz_⟩

/-! ### span_SMeet: function 27 -/
def span_SMeet.f (a0_0 : Int) (a0_1 : Int) (a1_0 : Int) (a1_1 : Int) : Option (Int × Int × Bool) := (span_meet_int64.f a0_0 a0_1 a1_0 a1_1).bind fun bt259 => (if bt259.2.2 = true then (some (bt259.1, bt259.2.1, true)) else (some (0, 0, false)))
set_option maxHeartbeats 8000000 in
set_option maxRecDepth 100000 in
theorem span_SMeet.calls (a0_0 : Int) (a0_1 : Int) (a1_0 : Int) (a1_1 : Int) (r1 : Int) (r2 : Int) (r3 : Bool) (w : World) (h : span_SMeet.f a0_0 a0_1 a1_0 a1_1 = some (r1, r2, r3)) :
 Calls Try.prog 27 #[.agg #[.int .i64 a0_0, .int .i64 a0_1], .agg #[.int .i64 a1_0, .int .i64 a1_1]] w fun e w' => e = .returned (.tuple #[.agg #[.int .i64 r1, .int .i64 r2], .bool r3]) ∧ Below w.heap.size w w' := by
 have hu28 := Try.underlying28
 have HB := Aside0.mk (Below.refl w.heap.size w)
 have H : ((span_meet_int64.f a0_0 a0_1 a1_0 a1_1).bind fun bt259 => (if bt259.2.2 = true then (some (bt259.1, bt259.2.1, true)) else (some (0, 0, false)))) = some (r1, r2, r3) := h
 clear h
 replace H := Option.bind_eq_some_iff.mp H
 obtain ⟨⟨t259, t260, t261⟩, A30, H⟩ := H
 replace H : (if t261 = true then (some (t259, t260, true)) else (some (0, 0, false))) = some (r1, r2, r3) := H
 have A3 := Aside0.mk A30
 clear A30
 by_cases c4 : t261 = true
 ·subst c4
  have H1 : (some (t259, t260, true)) = some (r1, r2, r3) := by rw [if_pos rfl] at H; exact H
  clear H
  have H := H1
  clear H1
  simp only [Option.some.injEq, Prod.mk.injEq] at H
  obtain ⟨rfl, rfl, rfl⟩ := H
  go_enter Try.func27, Try.ntmps27
  go_wp2_with (first | ((with_reducible refine gate_dst (N := 2) rfl ?_); refine bx_ 2 #[.int .i64 a0_0, .int .i64 a0_1] 28 ?_; intro gb256 hg w5 BK256 hb; have GW256 := bg_ hg; have GE256 := GW256; replace HB := bl_ hb; clear hb hg) | ((with_reducible refine gate_dst (N := 3) rfl ?_); refine bx_ 3 #[.int .i64 a1_0, .int .i64 a1_1] 28 ?_; intro gb257 hg w6 BK257 hb; have GW257 := bg_ hg; have GE257 := GW257; have NB256_257 := bm_ hg BK256; have NB257_256 := bn_ hg BK256; replace BK256 := bb_ hb BK256; replace HB := bl_ hb; clear hb hg) | ((with_reducible refine gate_dst (N := 4) rfl ?_); refine bx_ 4 #[.int .i64 0, .int .i64 0] 28 ?_; intro gb258 hg w7 BK258 hb; have GW258 := bg_ hg; have GE258 := GW258; have NB256_258 := bm_ hg BK256; have NB258_256 := bn_ hg BK256; have NB257_258 := bm_ hg BK257; have NB258_257 := bn_ hg BK257; replace BK256 := bb_ hb BK256; replace BK257 := bb_ hb BK257; replace HB := bl_ hb; clear hb hg; have hnb8 := NB256_257.out; have hnc8 := NB257_256.out; have hnb9 := NB256_258.out; have hnc9 := NB258_256.out; have hcz10_0 := c0_ BK256; have hcz10_1 := c1_ BK256; have hfz10_0 := fz_ BK256 0; have hfz10_1 := fz_ BK256 1; have hnb11 := NB257_258.out; have hnc11 := NB258_257.out; have hcz12_0 := c0_ BK257; have hcz12_1 := c1_ BK257; have hfz12_0 := fz_ BK257 0; have hfz12_1 := fz_ BK257 1) | ((with_reducible refine gate_callee (f := 83) rfl ?_); refine goesL_ (some 18) rfl rfl Try.func83 (by kernel_rfl) rfl #[.int .i64 a0_0, .int .i64 a0_1, .int .i64 a1_0, .int .i64 a1_1] rfl (by (try simp only [List.map_toArray, List.map_cons, List.map_nil]); first | done | rfl) ?_; (with_reducible refine (span_meet_int64.calls a0_0 a0_1 a1_0 a1_1 t259 t260 true _ A3.out).mono ?_); rintro e w13 ⟨rfl, hb⟩; refine ⟨_, rfl, ?_⟩; replace BK256 := bb_ hb BK256; replace BK257 := bb_ hb BK257; replace BK258 := bb_ hb BK258; replace HB := bl_ hb; (try clear hb); (try clear hb2); (try clear hk); (try clear hi); have hcz14_0 := c0_ BK258; have hcz14_1 := c1_ BK258; have hfz14_0 := fz_ BK258 0; have hfz14_1 := fz_ BK258 1))
  refine bodyPost_ret (results_ct rfl _ _ gb258 28 #[.int .i64 t259, .int .i64 t260] (0, 0) _ rfl (by (with_reducible repeat (first | apply bN_ | apply bD_ | apply bA_)); refine blk_put (cs := #[.int .i64 t259, .int .i64 0]) ?_ 1 _ rfl; (with_reducible repeat (first | apply bN_ | apply bD_ | apply bA_)); refine blk_put (cs := #[.int .i64 0, .int .i64 0]) ?_ 0 _ rfl; exact bk_) Try.underlying28 rfl (by kernel_rfl)) rfl ?_
  exact ⟨vv_, bz_⟩
 ·replace c4 := Bool.eq_false_iff.mpr c4
  subst c4
  have H1 : (some (0, 0, false)) = some (r1, r2, r3) := by rw [if_neg (show ¬ (false = true) by decide)] at H; exact H
  clear H
  have H := H1
  clear H1
  simp only [Option.some.injEq, Prod.mk.injEq] at H
  obtain ⟨rfl, rfl, rfl⟩ := H
  go_enter Try.func27, Try.ntmps27
  go_wp2_with (first | ((with_reducible refine gate_dst (N := 2) rfl ?_); refine bx_ 2 #[.int .i64 a0_0, .int .i64 a0_1] 28 ?_; intro gb256 hg w15 BK256 hb; have GW256 := bg_ hg; have GE256 := GW256; replace HB := bl_ hb; clear hb hg) | ((with_reducible refine gate_dst (N := 3) rfl ?_); refine bx_ 3 #[.int .i64 a1_0, .int .i64 a1_1] 28 ?_; intro gb257 hg w16 BK257 hb; have GW257 := bg_ hg; have GE257 := GW257; have NB256_257 := bm_ hg BK256; have NB257_256 := bn_ hg BK256; replace BK256 := bb_ hb BK256; replace HB := bl_ hb; clear hb hg) | ((with_reducible refine gate_dst (N := 4) rfl ?_); refine bx_ 4 #[.int .i64 0, .int .i64 0] 28 ?_; intro gb258 hg w17 BK258 hb; have GW258 := bg_ hg; have GE258 := GW258; have NB256_258 := bm_ hg BK256; have NB258_256 := bn_ hg BK256; have NB257_258 := bm_ hg BK257; have NB258_257 := bn_ hg BK257; replace BK256 := bb_ hb BK256; replace BK257 := bb_ hb BK257; replace HB := bl_ hb; clear hb hg; have hnb18 := NB256_257.out; have hnc18 := NB257_256.out; have hnb19 := NB256_258.out; have hnc19 := NB258_256.out; have hcz20_0 := c0_ BK256; have hcz20_1 := c1_ BK256; have hfz20_0 := fz_ BK256 0; have hfz20_1 := fz_ BK256 1; have hnb21 := NB257_258.out; have hnc21 := NB258_257.out; have hcz22_0 := c0_ BK257; have hcz22_1 := c1_ BK257; have hfz22_0 := fz_ BK257 0; have hfz22_1 := fz_ BK257 1) | ((with_reducible refine gate_callee (f := 83) rfl ?_); refine goesL_ (some 18) rfl rfl Try.func83 (by kernel_rfl) rfl #[.int .i64 a0_0, .int .i64 a0_1, .int .i64 a1_0, .int .i64 a1_1] rfl (by (try simp only [List.map_toArray, List.map_cons, List.map_nil]); first | done | rfl) ?_; (with_reducible refine (span_meet_int64.calls a0_0 a0_1 a1_0 a1_1 t259 t260 false _ A3.out).mono ?_); rintro e w23 ⟨rfl, hb⟩; refine ⟨_, rfl, ?_⟩; replace BK256 := bb_ hb BK256; replace BK257 := bb_ hb BK257; replace BK258 := bb_ hb BK258; replace HB := bl_ hb; (try clear hb); (try clear hb2); (try clear hk); (try clear hi); have hcz24_0 := c0_ BK258; have hcz24_1 := c1_ BK258; have hfz24_0 := fz_ BK258 0; have hfz24_1 := fz_ BK258 1))
  refine bodyPost_ret (results_ct rfl _ _ gb258 28 #[.int .i64 0, .int .i64 0] (0, 0) _ rfl (by (with_reducible repeat (first | apply bN_ | apply bD_ | apply bA_)); refine blk_put (cs := #[.int .i64 0, .int .i64 0]) ?_ 1 _ rfl; (with_reducible repeat (first | apply bN_ | apply bD_ | apply bA_)); refine blk_put (cs := #[.int .i64 0, .int .i64 0]) ?_ 0 _ rfl; exact bk_) Try.underlying28 rfl (by kernel_rfl)) rfl ?_
  exact ⟨vv_, bz_⟩

/-! ### span_join_int64: function 84 -/
def span_join_int64.f (a0 : Int) (a1 : Int) (a2 : Int) (a3 : Int) : Option (Int × Int) := some (mn a0 a2, mx a1 a3)
set_option maxHeartbeats 8000000 in
set_option maxRecDepth 100000 in
theorem span_join_int64.calls (a0 : Int) (a1 : Int) (a2 : Int) (a3 : Int) (r1 : Int) (r2 : Int) (w : World) (h : span_join_int64.f a0 a1 a2 a3 = some (r1, r2)) :
 Calls Try.prog 84 #[.int .i64 a0, .int .i64 a1, .int .i64 a2, .int .i64 a3] w fun e w' => e = .returned (.tuple #[.int .i64 r1, .int .i64 r2]) ∧ Below w.heap.size w w' := by
 have HB := Aside0.mk (Below.refl w.heap.size w)
 have H : (some (mn a0 a2, mx a1 a3)) = some (r1, r2) := h
 clear h
 obtain ⟨ji5, hji5⟩ : ∃ j_ : Int, (mn a0 a2) = j_ := ⟨_, rfl⟩
 replace H : (some (ji5, mx a1 a3)) = some (r1, r2) := by first | (rw [hji5] at H; exact H) | (simp only [hji5] at H ⊢; exact H)
 have hji5_ : (if a2 < a0 then a2 else a0) = ji5 := hji5
 obtain ⟨ji6, hji6⟩ : ∃ j_ : Int, (mx a1 a3) = j_ := ⟨_, rfl⟩
 replace H : (some (ji5, ji6)) = some (r1, r2) := by first | (rw [hji6] at H; exact H) | (simp only [hji6] at H ⊢; exact H)
 have hji6_ : (if a1 < a3 then a3 else a1) = ji6 := hji6
 simp only [Option.some.injEq, Prod.mk.injEq] at H
 obtain ⟨rfl, rfl⟩ := H
 go_enter Try.func84, Try.ntmps84
 go_wp2
 go_ret2
 exact ⟨by first | rfl | (simp [errW_none, errW_some] <;> rfl) | (simp only [← hji5, ← hji6]; first | rfl | (simp [errW_none, errW_some] <;> rfl)) | (simp [*, errW_none, errW_some] <;> rfl), bz_⟩

/-! ### span_SJoin: function 28 -/
def span_SJoin.f (a0_0 : Int) (a0_1 : Int) (a1_0 : Int) (a1_1 : Int) : Option (Int × Int) := (span_join_int64.f a0_0 a0_1 a1_0 a1_1).bind fun bt265 => (some (bt265.1, bt265.2))
set_option maxHeartbeats 8000000 in
set_option maxRecDepth 100000 in
theorem span_SJoin.calls (a0_0 : Int) (a0_1 : Int) (a1_0 : Int) (a1_1 : Int) (r1 : Int) (r2 : Int) (w : World) (h : span_SJoin.f a0_0 a0_1 a1_0 a1_1 = some (r1, r2)) :
 Calls Try.prog 28 #[.agg #[.int .i64 a0_0, .int .i64 a0_1], .agg #[.int .i64 a1_0, .int .i64 a1_1]] w fun e w' => e = .returned (.agg #[.int .i64 r1, .int .i64 r2]) ∧ Below w.heap.size w w' := by
 have hu28 := Try.underlying28
 have HB := Aside0.mk (Below.refl w.heap.size w)
 have H : ((span_join_int64.f a0_0 a0_1 a1_0 a1_1).bind fun bt265 => (some (bt265.1, bt265.2))) = some (r1, r2) := h
 clear h
 replace H := Option.bind_eq_some_iff.mp H
 obtain ⟨⟨t265, t266⟩, A30, H⟩ := H
 replace H : (some (t265, t266)) = some (r1, r2) := H
 have A3 := Aside0.mk A30
 clear A30
 simp only [Option.some.injEq, Prod.mk.injEq] at H
 obtain ⟨rfl, rfl⟩ := H
 go_enter Try.func28, Try.ntmps28
 go_wp2_with (first | ((with_reducible refine gate_dst (N := 2) rfl ?_); refine bx_ 2 #[.int .i64 a0_0, .int .i64 a0_1] 28 ?_; intro gb262 hg w4 BK262 hb; have GW262 := bg_ hg; have GE262 := GW262; replace HB := bl_ hb; clear hb hg) | ((with_reducible refine gate_dst (N := 3) rfl ?_); refine bx_ 3 #[.int .i64 a1_0, .int .i64 a1_1] 28 ?_; intro gb263 hg w5 BK263 hb; have GW263 := bg_ hg; have GE263 := GW263; have NB262_263 := bm_ hg BK262; have NB263_262 := bn_ hg BK262; replace BK262 := bb_ hb BK262; replace HB := bl_ hb; clear hb hg) | ((with_reducible refine gate_dst (N := 4) rfl ?_); refine bx_ 4 #[.int .i64 0, .int .i64 0] 28 ?_; intro gb264 hg w6 BK264 hb; have GW264 := bg_ hg; have GE264 := GW264; have NB262_264 := bm_ hg BK262; have NB264_262 := bn_ hg BK262; have NB263_264 := bm_ hg BK263; have NB264_263 := bn_ hg BK263; replace BK262 := bb_ hb BK262; replace BK263 := bb_ hb BK263; replace HB := bl_ hb; clear hb hg; have hnb7 := NB262_263.out; have hnc7 := NB263_262.out; have hnb8 := NB262_264.out; have hnc8 := NB264_262.out; have hcz9_0 := c0_ BK262; have hcz9_1 := c1_ BK262; have hfz9_0 := fz_ BK262 0; have hfz9_1 := fz_ BK262 1; have hnb10 := NB263_264.out; have hnc10 := NB264_263.out; have hcz11_0 := c0_ BK263; have hcz11_1 := c1_ BK263; have hfz11_0 := fz_ BK263 0; have hfz11_1 := fz_ BK263 1) | ((with_reducible refine gate_callee (f := 84) rfl ?_); refine goesL_ (some 16) rfl rfl Try.func84 (by kernel_rfl) rfl #[.int .i64 a0_0, .int .i64 a0_1, .int .i64 a1_0, .int .i64 a1_1] rfl (by (try simp only [List.map_toArray, List.map_cons, List.map_nil]); first | done | rfl) ?_; (with_reducible refine (span_join_int64.calls a0_0 a0_1 a1_0 a1_1 t265 t266 _ A3.out).mono ?_); rintro e w12 ⟨rfl, hb⟩; refine ⟨_, rfl, ?_⟩; replace BK262 := bb_ hb BK262; replace BK263 := bb_ hb BK263; replace BK264 := bb_ hb BK264; replace HB := bl_ hb; (try clear hb); (try clear hb2); (try clear hk); (try clear hi); have hcz13_0 := c0_ BK264; have hcz13_1 := c1_ BK264; have hfz13_0 := fz_ BK264 0; have hfz13_1 := fz_ BK264 1))
 refine bodyPost_ret (results_cell_row rfl _ _ gb264 28 #[.int .i64 t265, .int .i64 t266] (0, 0) _ rfl (by (with_reducible repeat (first | apply bN_ | apply bD_ | apply bA_)); refine blk_put (cs := #[.int .i64 t265, .int .i64 0]) ?_ 1 _ rfl; (with_reducible repeat (first | apply bN_ | apply bD_ | apply bA_)); refine blk_put (cs := #[.int .i64 0, .int .i64 0]) ?_ 0 _ rfl; exact bk_) Try.underlying28 rfl (by kernel_rfl)) rfl ?_
 exact ⟨vv_, bz_⟩

/-! ### span_SWithin: function 29 -/
def span_SWithin.f (a0_0 : Int) (a0_1 : Int) (a1_0 : Int) (a1_1 : Int) : Option (Bool) := if a1_0 ≤ a0_0 then (some (decide (a0_1 ≤ a1_1))) else (some false)
set_option maxHeartbeats 8000000 in
set_option maxRecDepth 100000 in
theorem span_SWithin.calls (a0_0 : Int) (a0_1 : Int) (a1_0 : Int) (a1_1 : Int) (r : Bool) (w : World) (h : span_SWithin.f a0_0 a0_1 a1_0 a1_1 = some r) :
 Calls Try.prog 29 #[.agg #[.int .i64 a0_0, .int .i64 a0_1], .agg #[.int .i64 a1_0, .int .i64 a1_1]] w fun e w' => e = .returned (.bool r) ∧ Below w.heap.size w w' := by
 have hu28 := Try.underlying28
 have HB := Aside0.mk (Below.refl w.heap.size w)
 have H : (if a1_0 ≤ a0_0 then (some (decide (a0_1 ≤ a1_1))) else (some false)) = some r := h
 clear h
 by_cases c3 : a1_0 ≤ a0_0
 ·rw [if_pos c3] at H
  have c3b0 : decide (a1_0 ≤ a0_0) = true := decide_eq_true c3
  clear c3
  obtain rfl := Option.some.inj H
  go_enter Try.func29, Try.ntmps29
  go_wp2_with (first | ((with_reducible refine gate_dst (N := 2) rfl ?_); refine bx_ 2 #[.int .i64 a0_0, .int .i64 a0_1] 28 ?_; intro gb267 hg w4 BK267 hb; have GW267 := bg_ hg; have GE267 := GW267; replace HB := bl_ hb; clear hb hg) | ((with_reducible refine gate_dst (N := 3) rfl ?_); refine bx_ 3 #[.int .i64 a1_0, .int .i64 a1_1] 28 ?_; intro gb268 hg w5 BK268 hb; have GW268 := bg_ hg; have GE268 := GW268; have NB267_268 := bm_ hg BK267; have NB268_267 := bn_ hg BK267; replace BK267 := bb_ hb BK267; replace HB := bl_ hb; clear hb hg; have hnb6 := NB268_267.out; have hnc6 := NB267_268.out; have hcz7_0 := c0_ BK268; have hcz7_1 := c1_ BK268; have hfz7_0 := fz_ BK268 0; have hfz7_1 := fz_ BK268 1; have hcz8_0 := c0_ BK267; have hcz8_1 := c1_ BK267; have hfz8_0 := fz_ BK267 0; have hfz8_1 := fz_ BK267 1))
  go_ret
  exact ⟨vv_, bz_⟩
 ·rw [if_neg c3] at H
  have c3b0 : decide (a1_0 ≤ a0_0) = false := decide_eq_false c3
  clear c3
  obtain rfl := Option.some.inj H
  go_enter Try.func29, Try.ntmps29
  go_wp2_with (first | ((with_reducible refine gate_dst (N := 2) rfl ?_); refine bx_ 2 #[.int .i64 a0_0, .int .i64 a0_1] 28 ?_; intro gb267 hg w9 BK267 hb; have GW267 := bg_ hg; have GE267 := GW267; replace HB := bl_ hb; clear hb hg) | ((with_reducible refine gate_dst (N := 3) rfl ?_); refine bx_ 3 #[.int .i64 a1_0, .int .i64 a1_1] 28 ?_; intro gb268 hg w10 BK268 hb; have GW268 := bg_ hg; have GE268 := GW268; have NB267_268 := bm_ hg BK267; have NB268_267 := bn_ hg BK267; replace BK267 := bb_ hb BK267; replace HB := bl_ hb; clear hb hg; have hnb11 := NB268_267.out; have hnc11 := NB267_268.out; have hcz12_0 := c0_ BK268; have hcz12_1 := c1_ BK268; have hfz12_0 := fz_ BK268 0; have hfz12_1 := fz_ BK268 1; have hcz13_0 := c0_ BK267; have hcz13_1 := c1_ BK267; have hfz13_0 := fz_ BK267 0; have hfz13_1 := fz_ BK267 1))
  go_ret
  exact ⟨vv_, bz_⟩

/-! ### span_SOf: function 40 -/
def span_SOf.f (a0 : Int) : Option (Int × Int) := some (wrap64 (a0), wrap64 (a0))
set_option maxHeartbeats 8000000 in
set_option maxRecDepth 100000 in
theorem span_SOf.calls (a0 : Int) (r1 : Int) (r2 : Int) (w : World) (h : span_SOf.f a0 = some (r1, r2)) :
 Calls Try.prog 40 #[.int .u64 a0] w fun e w' => e = .returned (.agg #[.int .i64 r1, .int .i64 r2]) ∧ Below w.heap.size w w' := by
 have hu28 := Try.underlying28
 have HB := Aside0.mk (Below.refl w.heap.size w)
 have H : (some (wrap64 (a0), wrap64 (a0))) = some (r1, r2) := h
 clear h
 simp only [Option.some.injEq, Prod.mk.injEq] at H
 obtain ⟨rfl, rfl⟩ := H
 go_enter Try.func40, Try.ntmps40
 go_wp2_with (first | ((with_reducible refine gate_dst (N := 2) rfl ?_); refine bx_ 2 #[.int .i64 0, .int .i64 0] 28 ?_; intro gb432 hg w2 BK432 hb; have GW432 := bg_ hg; have GE432 := GW432; replace HB := bl_ hb; clear hb hg; have hcz3_0 := c0_ BK432; have hcz3_1 := c1_ BK432; have hfz3_0 := fz_ BK432 0; have hfz3_1 := fz_ BK432 1))
 refine bodyPost_ret (results_cell_row rfl _ _ gb432 28 #[.int .i64 (wrap64 (a0)), .int .i64 (wrap64 (a0))] (0, 0) _ rfl (by (with_reducible repeat (first | apply bN_ | apply bD_ | apply bA_)); refine blk_put (cs := #[.int .i64 (wrap64 (a0)), .int .i64 0]) ?_ 1 _ rfl; (with_reducible repeat (first | apply bN_ | apply bD_ | apply bA_)); refine blk_put (cs := #[.int .i64 0, .int .i64 0]) ?_ 0 _ rfl; exact bk_) Try.underlying28 rfl (by kernel_rfl)) rfl ?_
 exact ⟨vv_, bz_⟩

end Go.Proofs.Ytnephcecobocdaa.PA
