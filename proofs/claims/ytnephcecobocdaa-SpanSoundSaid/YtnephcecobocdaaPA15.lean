-- PRINTED by print.py (a twelfth state) out of the translation. Not trusted: Lean checks it.
import Derived.Test.YtnephcecobocdaaWTab
import Derived.Test.YtnephcecobocdaaPA0
import Derived.Test.YtnephcecobocdaaSq
import Derived.Test.YtnephcecobocdaaPA12
import Derived.Test.YtnephcecobocdaaPA14
namespace Go.Proofs.Ytnephcecobocdaa.PA
open Go.RowKit Go.Proofs.YtnephcecobocdaaW.PrintWords Go.Proofs.YtnephcecobocdaaW.PrintLast Go.Proofs.YtnephcecobocdaaW.PrintMore
attribute [local go_sem] max2_int min2_int max_two min_two max_three min_three max_four min_four   -- for this text's walks alone
set_option linter.unusedVariables false
set_option linter.unusedSimpArgs false

/-! ### lockgateref04_SAdd: function 34 -/
def lockgateref04_SAdd.f (a0_0 : Int) (a0_1 : Int) (a1_0 : Int) (a1_1 : Int) : Option (Int × Int) := (lockgateref04_over.f a0_0 a1_0).bind fun t399 => (if t399 = true then ((lockgateref04_SAll.f).bind fun bt400 => (some (bt400.1, bt400.2))) else ((lockgateref04_over.f a0_1 a1_1).bind fun t402 => (if t402 = true then ((lockgateref04_SAll.f).bind fun bt403 => (some (bt403.1, bt403.2))) else (some (wrap64 (a0_0 + a1_0), wrap64 (a0_1 + a1_1))))))
set_option maxHeartbeats 8000000 in
set_option maxRecDepth 100000 in
theorem lockgateref04_SAdd.calls (a0_0 : Int) (a0_1 : Int) (a1_0 : Int) (a1_1 : Int) (r1 : Int) (r2 : Int) (w : World) (h : lockgateref04_SAdd.f a0_0 a0_1 a1_0 a1_1 = some (r1, r2)) :
 Calls Try.prog 34 #[.agg #[.int .i64 a0_0, .int .i64 a0_1], .agg #[.int .i64 a1_0, .int .i64 a1_1]] w fun e w' => e = .returned (.agg #[.int .i64 r1, .int .i64 r2]) ∧ Below w.heap.size w w' := by
 have hu28 := Try.underlying28
 have HB := Aside0.mk (Below.refl w.heap.size w)
 have H : ((lockgateref04_over.f a0_0 a1_0).bind fun t399 => (if t399 = true then ((lockgateref04_SAll.f).bind fun bt400 => (some (bt400.1, bt400.2))) else ((lockgateref04_over.f a0_1 a1_1).bind fun t402 => (if t402 = true then ((lockgateref04_SAll.f).bind fun bt403 => (some (bt403.1, bt403.2))) else (some (wrap64 (a0_0 + a1_0), wrap64 (a0_1 + a1_1))))))) = some (r1, r2) := h
 clear h
 replace H := Option.bind_eq_some_iff.mp H
 obtain ⟨t399, A30, H⟩ := H
 replace H : (if t399 = true then ((lockgateref04_SAll.f).bind fun bt400 => (some (bt400.1, bt400.2))) else ((lockgateref04_over.f a0_1 a1_1).bind fun t402 => (if t402 = true then ((lockgateref04_SAll.f).bind fun bt403 => (some (bt403.1, bt403.2))) else (some (wrap64 (a0_0 + a1_0), wrap64 (a0_1 + a1_1)))))) = some (r1, r2) := H
 have A3 := Aside0.mk A30
 clear A30
 by_cases c4 : t399 = true
 ·subst c4
  have H1 : ((lockgateref04_SAll.f).bind fun bt400 => (some (bt400.1, bt400.2))) = some (r1, r2) := by rw [if_pos rfl] at H; exact H
  clear H
  have H := H1
  clear H1
  replace H := Option.bind_eq_some_iff.mp H
  obtain ⟨⟨t400, t401⟩, A50, H⟩ := H
  replace H : (some (t400, t401)) = some (r1, r2) := H
  have A5 := Aside0.mk A50
  clear A50
  simp only [Option.some.injEq, Prod.mk.injEq] at H
  obtain ⟨rfl, rfl⟩ := H
  go_enter Try.func34, Try.ntmps34
  go_wp2_with (first | ((with_reducible refine gate_dst (N := 2) rfl ?_); refine bx_ 2 #[.int .i64 a0_0, .int .i64 a0_1] 28 ?_; intro gb396 hg w6 BK396 hb; have GW396 := bg_ hg; have GE396 := GW396; replace HB := bl_ hb; clear hb hg) | ((with_reducible refine gate_dst (N := 3) rfl ?_); refine bx_ 3 #[.int .i64 a1_0, .int .i64 a1_1] 28 ?_; intro gb397 hg w7 BK397 hb; have GW397 := bg_ hg; have GE397 := GW397; have NB396_397 := bm_ hg BK396; have NB397_396 := bn_ hg BK396; replace BK396 := bb_ hb BK396; replace HB := bl_ hb; clear hb hg) | ((with_reducible refine gate_dst (N := 4) rfl ?_); refine bx_ 4 #[.int .i64 0, .int .i64 0] 28 ?_; intro gb398 hg w8 BK398 hb; have GW398 := bg_ hg; have GE398 := GW398; have NB396_398 := bm_ hg BK396; have NB398_396 := bn_ hg BK396; have NB397_398 := bm_ hg BK397; have NB398_397 := bn_ hg BK397; replace BK396 := bb_ hb BK396; replace BK397 := bb_ hb BK397; replace HB := bl_ hb; clear hb hg; have hnb9 := NB396_397.out; have hnc9 := NB397_396.out; have hnb10 := NB396_398.out; have hnc10 := NB398_396.out; have hcz11_0 := c0_ BK396; have hcz11_1 := c1_ BK396; have hfz11_0 := fz_ BK396 0; have hfz11_1 := fz_ BK396 1; have hnb12 := NB397_398.out; have hnc12 := NB398_397.out; have hcz13_0 := c0_ BK397; have hcz13_1 := c1_ BK397; have hfz13_0 := fz_ BK397 0; have hfz13_1 := fz_ BK397 1) | ((with_reducible refine gate_callee (f := 85) rfl ?_); refine goesL_ (some 9) rfl rfl Try.func85 (by kernel_rfl) rfl #[.int .i64 a0_0, .int .i64 a1_0] rfl (by (try simp only [List.map_toArray, List.map_cons, List.map_nil]); first | done | rfl) ?_; (with_reducible refine (lockgateref04_over.calls a0_0 a1_0 true _ A3.out).mono ?_); rintro e w14 ⟨rfl, hb⟩; refine ⟨_, rfl, ?_⟩; replace BK396 := bb_ hb BK396; replace BK397 := bb_ hb BK397; replace BK398 := bb_ hb BK398; replace HB := bl_ hb; (try clear hb); (try clear hb2); (try clear hk); (try clear hi)) | ((with_reducible refine gate_callee (f := 39) rfl ?_); refine goesL_ (some 17) rfl rfl Try.func39 (by kernel_rfl) rfl #[] rfl (by (try simp only [List.map_toArray, List.map_cons, List.map_nil]); first | done | rfl) ?_; (with_reducible refine (lockgateref04_SAll.calls  t400 t401 _ A5.out).mono ?_); rintro e w15 ⟨rfl, hb⟩; refine ⟨_, rfl, ?_⟩; replace BK396 := bb_ hb BK396; replace BK397 := bb_ hb BK397; replace BK398 := bb_ hb BK398; replace HB := bl_ hb; (try clear hb); (try clear hb2); (try clear hk); (try clear hi); have hcz16_0 := c0_ BK398; have hcz16_1 := c1_ BK398; have hfz16_0 := fz_ BK398 0; have hfz16_1 := fz_ BK398 1))
  refine bodyPost_ret (results_cell_row rfl _ _ gb398 28 #[.int .i64 t400, .int .i64 t401] (0, 0) _ rfl (by (with_reducible repeat (first | apply bN_ | apply bD_ | apply bA_)); refine blk_put (cs := #[.int .i64 t400, .int .i64 0]) ?_ 1 _ rfl; (with_reducible repeat (first | apply bN_ | apply bD_ | apply bA_)); refine blk_put (cs := #[.int .i64 0, .int .i64 0]) ?_ 0 _ rfl; exact bk_) Try.underlying28 rfl (by kernel_rfl)) rfl ?_
  exact ⟨vv_, bz_⟩
 ·replace c4 := Bool.eq_false_iff.mpr c4
  subst c4
  have H1 : ((lockgateref04_over.f a0_1 a1_1).bind fun t402 => (if t402 = true then ((lockgateref04_SAll.f).bind fun bt403 => (some (bt403.1, bt403.2))) else (some (wrap64 (a0_0 + a1_0), wrap64 (a0_1 + a1_1))))) = some (r1, r2) := by rw [if_neg (show ¬ (false = true) by decide)] at H; exact H
  clear H
  have H := H1
  clear H1
  replace H := Option.bind_eq_some_iff.mp H
  obtain ⟨t402, A170, H⟩ := H
  replace H : (if t402 = true then ((lockgateref04_SAll.f).bind fun bt403 => (some (bt403.1, bt403.2))) else (some (wrap64 (a0_0 + a1_0), wrap64 (a0_1 + a1_1)))) = some (r1, r2) := H
  have A17 := Aside0.mk A170
  clear A170
  by_cases c18 : t402 = true
  ·subst c18
   have H1 : ((lockgateref04_SAll.f).bind fun bt403 => (some (bt403.1, bt403.2))) = some (r1, r2) := by rw [if_pos rfl] at H; exact H
   clear H
   have H := H1
   clear H1
   replace H := Option.bind_eq_some_iff.mp H
   obtain ⟨⟨t403, t404⟩, A190, H⟩ := H
   replace H : (some (t403, t404)) = some (r1, r2) := H
   have A19 := Aside0.mk A190
   clear A190
   simp only [Option.some.injEq, Prod.mk.injEq] at H
   obtain ⟨rfl, rfl⟩ := H
   go_enter Try.func34, Try.ntmps34
   go_wp2_with (first | ((with_reducible refine gate_dst (N := 2) rfl ?_); refine bx_ 2 #[.int .i64 a0_0, .int .i64 a0_1] 28 ?_; intro gb396 hg w20 BK396 hb; have GW396 := bg_ hg; have GE396 := GW396; replace HB := bl_ hb; clear hb hg) | ((with_reducible refine gate_dst (N := 3) rfl ?_); refine bx_ 3 #[.int .i64 a1_0, .int .i64 a1_1] 28 ?_; intro gb397 hg w21 BK397 hb; have GW397 := bg_ hg; have GE397 := GW397; have NB396_397 := bm_ hg BK396; have NB397_396 := bn_ hg BK396; replace BK396 := bb_ hb BK396; replace HB := bl_ hb; clear hb hg) | ((with_reducible refine gate_dst (N := 4) rfl ?_); refine bx_ 4 #[.int .i64 0, .int .i64 0] 28 ?_; intro gb398 hg w22 BK398 hb; have GW398 := bg_ hg; have GE398 := GW398; have NB396_398 := bm_ hg BK396; have NB398_396 := bn_ hg BK396; have NB397_398 := bm_ hg BK397; have NB398_397 := bn_ hg BK397; replace BK396 := bb_ hb BK396; replace BK397 := bb_ hb BK397; replace HB := bl_ hb; clear hb hg; have hnb23 := NB396_397.out; have hnc23 := NB397_396.out; have hnb24 := NB396_398.out; have hnc24 := NB398_396.out; have hcz25_0 := c0_ BK396; have hcz25_1 := c1_ BK396; have hfz25_0 := fz_ BK396 0; have hfz25_1 := fz_ BK396 1; have hnb26 := NB397_398.out; have hnc26 := NB398_397.out; have hcz27_0 := c0_ BK397; have hcz27_1 := c1_ BK397; have hfz27_0 := fz_ BK397 0; have hfz27_1 := fz_ BK397 1) | ((with_reducible refine gate_callee (f := 85) rfl ?_); refine goesL_ (some 9) rfl rfl Try.func85 (by kernel_rfl) rfl #[.int .i64 a0_0, .int .i64 a1_0] rfl (by (try simp only [List.map_toArray, List.map_cons, List.map_nil]); first | done | rfl) ?_; (with_reducible refine (lockgateref04_over.calls a0_0 a1_0 false _ A3.out).mono ?_); rintro e w28 ⟨rfl, hb⟩; refine ⟨_, rfl, ?_⟩; replace BK396 := bb_ hb BK396; replace BK397 := bb_ hb BK397; replace BK398 := bb_ hb BK398; replace HB := bl_ hb; (try clear hb); (try clear hb2); (try clear hk); (try clear hi); have hcz29_0 := c0_ BK396; have hcz29_1 := c1_ BK396; have hfz29_0 := fz_ BK396 0; have hfz29_1 := fz_ BK396 1; have hcz30_0 := c0_ BK397; have hcz30_1 := c1_ BK397; have hfz30_0 := fz_ BK397 0; have hfz30_1 := fz_ BK397 1) | (go_at_call 85; (with_reducible refine (lockgateref04_over.calls a0_1 a1_1 true _ A17.out).mono ?_); rintro e w31 ⟨rfl, hb⟩; replace BK396 := bb_ hb BK396; replace BK397 := bb_ hb BK397; replace BK398 := bb_ hb BK398; replace HB := bl_ hb; (try clear hb); (try clear hb2); (try clear hk); (try clear hi)) | ((with_reducible refine gate_callee (f := 39) rfl ?_); refine goesL_ (some 17) rfl rfl Try.func39 (by kernel_rfl) rfl #[] rfl (by (try simp only [List.map_toArray, List.map_cons, List.map_nil]); first | done | rfl) ?_; (with_reducible refine (lockgateref04_SAll.calls  t403 t404 _ A19.out).mono ?_); rintro e w32 ⟨rfl, hb⟩; refine ⟨_, rfl, ?_⟩; replace BK396 := bb_ hb BK396; replace BK397 := bb_ hb BK397; replace BK398 := bb_ hb BK398; replace HB := bl_ hb; (try clear hb); (try clear hb2); (try clear hk); (try clear hi); have hcz33_0 := c0_ BK398; have hcz33_1 := c1_ BK398; have hfz33_0 := fz_ BK398 0; have hfz33_1 := fz_ BK398 1))
   refine bodyPost_ret (results_cell_row rfl _ _ gb398 28 #[.int .i64 t403, .int .i64 t404] (0, 0) _ rfl (by (with_reducible repeat (first | apply bN_ | apply bD_ | apply bA_)); refine blk_put (cs := #[.int .i64 t403, .int .i64 0]) ?_ 1 _ rfl; (with_reducible repeat (first | apply bN_ | apply bD_ | apply bA_)); refine blk_put (cs := #[.int .i64 0, .int .i64 0]) ?_ 0 _ rfl; exact bk_) Try.underlying28 rfl (by kernel_rfl)) rfl ?_
   exact ⟨vv_, bz_⟩
  ·replace c18 := Bool.eq_false_iff.mpr c18
   subst c18
   have H1 : (some (wrap64 (a0_0 + a1_0), wrap64 (a0_1 + a1_1))) = some (r1, r2) := by rw [if_neg (show ¬ (false = true) by decide)] at H; exact H
   clear H
   have H := H1
   clear H1
   simp only [Option.some.injEq, Prod.mk.injEq] at H
   obtain ⟨rfl, rfl⟩ := H
   go_enter Try.func34, Try.ntmps34
   go_wp2_with (first | ((with_reducible refine gate_dst (N := 2) rfl ?_); refine bx_ 2 #[.int .i64 a0_0, .int .i64 a0_1] 28 ?_; intro gb396 hg w34 BK396 hb; have GW396 := bg_ hg; have GE396 := GW396; replace HB := bl_ hb; clear hb hg) | ((with_reducible refine gate_dst (N := 3) rfl ?_); refine bx_ 3 #[.int .i64 a1_0, .int .i64 a1_1] 28 ?_; intro gb397 hg w35 BK397 hb; have GW397 := bg_ hg; have GE397 := GW397; have NB396_397 := bm_ hg BK396; have NB397_396 := bn_ hg BK396; replace BK396 := bb_ hb BK396; replace HB := bl_ hb; clear hb hg) | ((with_reducible refine gate_dst (N := 4) rfl ?_); refine bx_ 4 #[.int .i64 0, .int .i64 0] 28 ?_; intro gb398 hg w36 BK398 hb; have GW398 := bg_ hg; have GE398 := GW398; have NB396_398 := bm_ hg BK396; have NB398_396 := bn_ hg BK396; have NB397_398 := bm_ hg BK397; have NB398_397 := bn_ hg BK397; replace BK396 := bb_ hb BK396; replace BK397 := bb_ hb BK397; replace HB := bl_ hb; clear hb hg; have hnb37 := NB396_397.out; have hnc37 := NB397_396.out; have hnb38 := NB396_398.out; have hnc38 := NB398_396.out; have hcz39_0 := c0_ BK396; have hcz39_1 := c1_ BK396; have hfz39_0 := fz_ BK396 0; have hfz39_1 := fz_ BK396 1; have hnb40 := NB397_398.out; have hnc40 := NB398_397.out; have hcz41_0 := c0_ BK397; have hcz41_1 := c1_ BK397; have hfz41_0 := fz_ BK397 0; have hfz41_1 := fz_ BK397 1) | ((with_reducible refine gate_callee (f := 85) rfl ?_); refine goesL_ (some 9) rfl rfl Try.func85 (by kernel_rfl) rfl #[.int .i64 a0_0, .int .i64 a1_0] rfl (by (try simp only [List.map_toArray, List.map_cons, List.map_nil]); first | done | rfl) ?_; (with_reducible refine (lockgateref04_over.calls a0_0 a1_0 false _ A3.out).mono ?_); rintro e w42 ⟨rfl, hb⟩; refine ⟨_, rfl, ?_⟩; replace BK396 := bb_ hb BK396; replace BK397 := bb_ hb BK397; replace BK398 := bb_ hb BK398; replace HB := bl_ hb; (try clear hb); (try clear hb2); (try clear hk); (try clear hi); have hcz43_0 := c0_ BK396; have hcz43_1 := c1_ BK396; have hfz43_0 := fz_ BK396 0; have hfz43_1 := fz_ BK396 1; have hcz44_0 := c0_ BK397; have hcz44_1 := c1_ BK397; have hfz44_0 := fz_ BK397 0; have hfz44_1 := fz_ BK397 1) | (go_at_call 85; (with_reducible refine (lockgateref04_over.calls a0_1 a1_1 false _ A17.out).mono ?_); rintro e w45 ⟨rfl, hb⟩; replace BK396 := bb_ hb BK396; replace BK397 := bb_ hb BK397; replace BK398 := bb_ hb BK398; replace HB := bl_ hb; (try clear hb); (try clear hb2); (try clear hk); (try clear hi); have hcz46_0 := c0_ BK396; have hcz46_1 := c1_ BK396; have hfz46_0 := fz_ BK396 0; have hfz46_1 := fz_ BK396 1; have hcz47_0 := c0_ BK397; have hcz47_1 := c1_ BK397; have hfz47_0 := fz_ BK397 0; have hfz47_1 := fz_ BK397 1; have hcz48_0 := c0_ BK398; have hcz48_1 := c1_ BK398; have hfz48_0 := fz_ BK398 0; have hfz48_1 := fz_ BK398 1))
   refine bodyPost_ret (results_cell_row rfl _ _ gb398 28 #[.int .i64 (wrap64 (a0_0 + a1_0)), .int .i64 (wrap64 (a0_1 + a1_1))] (0, 0) _ rfl (by (with_reducible repeat (first | apply bN_ | apply bD_ | apply bA_)); refine blk_put (cs := #[.int .i64 (wrap64 (a0_0 + a1_0)), .int .i64 0]) ?_ 1 _ rfl; (with_reducible repeat (first | apply bN_ | apply bD_ | apply bA_)); refine blk_put (cs := #[.int .i64 0, .int .i64 0]) ?_ 0 _ rfl; exact bk_) Try.underlying28 rfl (by kernel_rfl)) rfl ?_
   exact ⟨vv_, bz_⟩

/-! ### lockgateref04_under: function 86 -/
def lockgateref04_under.f (a0 : Int) (a1 : Int) : Option (Bool) := if a1 < 0 then ((lockgateref04_SAll.f).bind fun bt405 => (if a0 > (wrap64 (bt405.2 + a1)) then (some true) else (if a1 > 0 then ((lockgateref04_SAll.f).bind fun bt407 => (some (decide (a0 < (wrap64 (bt407.1 + a1)))))) else (some false)))) else (if a1 > 0 then ((lockgateref04_SAll.f).bind fun bt409 => (some (decide (a0 < (wrap64 (bt409.1 + a1)))))) else (some false))
set_option maxHeartbeats 8000000 in
set_option maxRecDepth 100000 in
theorem lockgateref04_under.calls (a0 : Int) (a1 : Int) (r : Bool) (w : World) (h : lockgateref04_under.f a0 a1 = some r) :
 Calls Try.prog 86 #[.int .i64 a0, .int .i64 a1] w fun e w' => e = .returned (.bool r) ∧ Below w.heap.size w w' := by
 have hu28 := Try.underlying28
 have HB := Aside0.mk (Below.refl w.heap.size w)
 have H : (if a1 < 0 then ((lockgateref04_SAll.f).bind fun bt405 => (if a0 > (wrap64 (bt405.2 + a1)) then (some true) else (if a1 > 0 then ((lockgateref04_SAll.f).bind fun bt407 => (some (decide (a0 < (wrap64 (bt407.1 + a1)))))) else (some false)))) else (if a1 > 0 then ((lockgateref04_SAll.f).bind fun bt409 => (some (decide (a0 < (wrap64 (bt409.1 + a1)))))) else (some false))) = some r := h
 clear h
 by_cases c3 : a1 < 0
 ·rw [if_pos c3] at H
  have c3b0 : decide (a1 < 0) = true := decide_eq_true c3
  clear c3
  replace H := Option.bind_eq_some_iff.mp H
  obtain ⟨⟨t405, t406⟩, A40, H⟩ := H
  replace H : (if a0 > (wrap64 (t406 + a1)) then (some true) else (if a1 > 0 then ((lockgateref04_SAll.f).bind fun bt407 => (some (decide (a0 < (wrap64 (bt407.1 + a1)))))) else (some false))) = some r := H
  have A4 := Aside0.mk A40
  clear A40
  by_cases c5 : a0 > (wrap64 (t406 + a1))
  ·rw [if_pos c5] at H
   have c5b0 : decide ((wrap64 (t406 + a1)) < a0) = true := decide_eq_true c5
   clear c5
   obtain rfl := Option.some.inj H
   go_enter Try.func86, Try.ntmps86
   go_wp2_with (first | (go_at_call 39; (with_reducible refine (lockgateref04_SAll.calls  t405 t406 _ A4.out).mono ?_); rintro e w6 ⟨rfl, hb⟩; replace HB := bl_ hb; (try clear hb); (try clear hb2); (try clear hk); (try clear hi)))
   (repeat (simp only [fl28_0, fl28_1]; go_wp2_with (first | (go_at_call 39; (with_reducible refine (lockgateref04_SAll.calls  t405 t406 _ A4.out).mono ?_); rintro e w6 ⟨rfl, hb⟩; replace HB := bl_ hb; (try clear hb); (try clear hb2); (try clear hk); (try clear hi)))))
   go_ret
   exact ⟨by first | rfl | (exfalso; simp only [decide_eq_true_eq, decide_eq_false_iff_not] at *; omega) | (simp [errW_none, errW_some] <;> rfl) | (simp [*, errW_none, errW_some] <;> rfl), bz_⟩
  ·rw [if_neg c5] at H
   have c5b0 : decide ((wrap64 (t406 + a1)) < a0) = false := decide_eq_false c5
   clear c5
   by_cases c7 : a1 > 0
   ·rw [if_pos c7] at H
    have c7b0 : decide (0 < a1) = true := decide_eq_true c7
    clear c7
    replace H := Option.bind_eq_some_iff.mp H
    obtain ⟨⟨t407, t408⟩, A80, H⟩ := H
    replace H : (some (decide (a0 < (wrap64 (t407 + a1))))) = some r := H
    have A8 := Aside0.mk A80
    clear A80
    obtain rfl := Option.some.inj H
    go_enter Try.func86, Try.ntmps86
    go_wp2_with (first | (go_at_call 39; (with_reducible refine (lockgateref04_SAll.calls  t405 t406 _ A4.out).mono ?_); rintro e w9 ⟨rfl, hb⟩; replace HB := bl_ hb; (try clear hb); (try clear hb2); (try clear hk); (try clear hi)) | (go_at_call 39; (with_reducible refine (lockgateref04_SAll.calls  t407 t408 _ A8.out).mono ?_); rintro e w10 ⟨rfl, hb⟩; replace HB := bl_ hb; (try clear hb); (try clear hb2); (try clear hk); (try clear hi)))
    (repeat (simp only [fl28_0, fl28_1]; go_wp2_with (first | (go_at_call 39; (with_reducible refine (lockgateref04_SAll.calls  t405 t406 _ A4.out).mono ?_); rintro e w9 ⟨rfl, hb⟩; replace HB := bl_ hb; (try clear hb); (try clear hb2); (try clear hk); (try clear hi)) | (go_at_call 39; (with_reducible refine (lockgateref04_SAll.calls  t407 t408 _ A8.out).mono ?_); rintro e w10 ⟨rfl, hb⟩; replace HB := bl_ hb; (try clear hb); (try clear hb2); (try clear hk); (try clear hi)))))
    go_ret
    exact ⟨by first | rfl | (exfalso; simp only [decide_eq_true_eq, decide_eq_false_iff_not] at *; omega) | (simp [errW_none, errW_some] <;> rfl) | (simp [*, errW_none, errW_some] <;> rfl), bz_⟩
   ·rw [if_neg c7] at H
    have c7b0 : decide (0 < a1) = false := decide_eq_false c7
    clear c7
    obtain rfl := Option.some.inj H
    go_enter Try.func86, Try.ntmps86
    go_wp2_with (first | (go_at_call 39; (with_reducible refine (lockgateref04_SAll.calls  t405 t406 _ A4.out).mono ?_); rintro e w11 ⟨rfl, hb⟩; replace HB := bl_ hb; (try clear hb); (try clear hb2); (try clear hk); (try clear hi)))
    (repeat (simp only [fl28_0, fl28_1]; go_wp2_with (first | (go_at_call 39; (with_reducible refine (lockgateref04_SAll.calls  t405 t406 _ A4.out).mono ?_); rintro e w11 ⟨rfl, hb⟩; replace HB := bl_ hb; (try clear hb); (try clear hb2); (try clear hk); (try clear hi)))))
    go_ret
    exact ⟨by first | rfl | (exfalso; simp only [decide_eq_true_eq, decide_eq_false_iff_not] at *; omega) | (simp [errW_none, errW_some] <;> rfl) | (simp [*, errW_none, errW_some] <;> rfl), bz_⟩
 ·rw [if_neg c3] at H
  have c3b0 : decide (a1 < 0) = false := decide_eq_false c3
  clear c3
  by_cases c12 : a1 > 0
  ·rw [if_pos c12] at H
   have c12b0 : decide (0 < a1) = true := decide_eq_true c12
   clear c12
   replace H := Option.bind_eq_some_iff.mp H
   obtain ⟨⟨t409, t410⟩, A130, H⟩ := H
   replace H : (some (decide (a0 < (wrap64 (t409 + a1))))) = some r := H
   have A13 := Aside0.mk A130
   clear A130
   obtain rfl := Option.some.inj H
   go_enter Try.func86, Try.ntmps86
   go_wp2_with (first | (go_at_call 39; (with_reducible refine (lockgateref04_SAll.calls  t409 t410 _ A13.out).mono ?_); rintro e w14 ⟨rfl, hb⟩; replace HB := bl_ hb; (try clear hb); (try clear hb2); (try clear hk); (try clear hi)))
   (repeat (simp only [fl28_0, fl28_1]; go_wp2_with (first | (go_at_call 39; (with_reducible refine (lockgateref04_SAll.calls  t409 t410 _ A13.out).mono ?_); rintro e w14 ⟨rfl, hb⟩; replace HB := bl_ hb; (try clear hb); (try clear hb2); (try clear hk); (try clear hi)))))
   go_ret
   exact ⟨by first | rfl | (exfalso; simp only [decide_eq_true_eq, decide_eq_false_iff_not] at *; omega) | (simp [errW_none, errW_some] <;> rfl) | (simp [*, errW_none, errW_some] <;> rfl), bz_⟩
  ·rw [if_neg c12] at H
   have c12b0 : decide (0 < a1) = false := decide_eq_false c12
   clear c12
   obtain rfl := Option.some.inj H
   go_enter Try.func86, Try.ntmps86
   go_wp2
   go_ret
   exact ⟨by first | rfl | (exfalso; simp only [decide_eq_true_eq, decide_eq_false_iff_not] at *; omega) | (simp [errW_none, errW_some] <;> rfl) | (simp [*, errW_none, errW_some] <;> rfl), bz_⟩

/-! ### lockgateref04_SSub: function 35 -/
def lockgateref04_SSub.f (a0_0 : Int) (a0_1 : Int) (a1_0 : Int) (a1_1 : Int) : Option (Int × Int) := (lockgateref04_under.f a0_0 a1_1).bind fun t414 => (if t414 = true then ((lockgateref04_SAll.f).bind fun bt415 => (some (bt415.1, bt415.2))) else ((lockgateref04_under.f a0_1 a1_0).bind fun t417 => (if t417 = true then ((lockgateref04_SAll.f).bind fun bt418 => (some (bt418.1, bt418.2))) else (some (wrap64 (a0_0 - a1_1), wrap64 (a0_1 - a1_0))))))
set_option maxHeartbeats 8000000 in
set_option maxRecDepth 100000 in
theorem lockgateref04_SSub.calls (a0_0 : Int) (a0_1 : Int) (a1_0 : Int) (a1_1 : Int) (r1 : Int) (r2 : Int) (w : World) (h : lockgateref04_SSub.f a0_0 a0_1 a1_0 a1_1 = some (r1, r2)) :
 Calls Try.prog 35 #[.agg #[.int .i64 a0_0, .int .i64 a0_1], .agg #[.int .i64 a1_0, .int .i64 a1_1]] w fun e w' => e = .returned (.agg #[.int .i64 r1, .int .i64 r2]) ∧ Below w.heap.size w w' := by
 have hu28 := Try.underlying28
 have HB := Aside0.mk (Below.refl w.heap.size w)
 have H : ((lockgateref04_under.f a0_0 a1_1).bind fun t414 => (if t414 = true then ((lockgateref04_SAll.f).bind fun bt415 => (some (bt415.1, bt415.2))) else ((lockgateref04_under.f a0_1 a1_0).bind fun t417 => (if t417 = true then ((lockgateref04_SAll.f).bind fun bt418 => (some (bt418.1, bt418.2))) else (some (wrap64 (a0_0 - a1_1), wrap64 (a0_1 - a1_0))))))) = some (r1, r2) := h
 clear h
 replace H := Option.bind_eq_some_iff.mp H
 obtain ⟨t414, A30, H⟩ := H
 replace H : (if t414 = true then ((lockgateref04_SAll.f).bind fun bt415 => (some (bt415.1, bt415.2))) else ((lockgateref04_under.f a0_1 a1_0).bind fun t417 => (if t417 = true then ((lockgateref04_SAll.f).bind fun bt418 => (some (bt418.1, bt418.2))) else (some (wrap64 (a0_0 - a1_1), wrap64 (a0_1 - a1_0)))))) = some (r1, r2) := H
 have A3 := Aside0.mk A30
 clear A30
 by_cases c4 : t414 = true
 ·subst c4
  have H1 : ((lockgateref04_SAll.f).bind fun bt415 => (some (bt415.1, bt415.2))) = some (r1, r2) := by rw [if_pos rfl] at H; exact H
  clear H
  have H := H1
  clear H1
  replace H := Option.bind_eq_some_iff.mp H
  obtain ⟨⟨t415, t416⟩, A50, H⟩ := H
  replace H : (some (t415, t416)) = some (r1, r2) := H
  have A5 := Aside0.mk A50
  clear A50
  simp only [Option.some.injEq, Prod.mk.injEq] at H
  obtain ⟨rfl, rfl⟩ := H
  go_enter Try.func35, Try.ntmps35
  go_wp2_with (first | ((with_reducible refine gate_dst (N := 2) rfl ?_); refine bx_ 2 #[.int .i64 a0_0, .int .i64 a0_1] 28 ?_; intro gb411 hg w6 BK411 hb; have GW411 := bg_ hg; have GE411 := GW411; replace HB := bl_ hb; clear hb hg) | ((with_reducible refine gate_dst (N := 3) rfl ?_); refine bx_ 3 #[.int .i64 a1_0, .int .i64 a1_1] 28 ?_; intro gb412 hg w7 BK412 hb; have GW412 := bg_ hg; have GE412 := GW412; have NB411_412 := bm_ hg BK411; have NB412_411 := bn_ hg BK411; replace BK411 := bb_ hb BK411; replace HB := bl_ hb; clear hb hg) | ((with_reducible refine gate_dst (N := 4) rfl ?_); refine bx_ 4 #[.int .i64 0, .int .i64 0] 28 ?_; intro gb413 hg w8 BK413 hb; have GW413 := bg_ hg; have GE413 := GW413; have NB411_413 := bm_ hg BK411; have NB413_411 := bn_ hg BK411; have NB412_413 := bm_ hg BK412; have NB413_412 := bn_ hg BK412; replace BK411 := bb_ hb BK411; replace BK412 := bb_ hb BK412; replace HB := bl_ hb; clear hb hg; have hnb9 := NB411_412.out; have hnc9 := NB412_411.out; have hnb10 := NB411_413.out; have hnc10 := NB413_411.out; have hcz11_0 := c0_ BK411; have hcz11_1 := c1_ BK411; have hfz11_0 := fz_ BK411 0; have hfz11_1 := fz_ BK411 1; have hnb12 := NB412_413.out; have hnc12 := NB413_412.out; have hcz13_0 := c0_ BK412; have hcz13_1 := c1_ BK412; have hfz13_0 := fz_ BK412 0; have hfz13_1 := fz_ BK412 1) | ((with_reducible refine gate_callee (f := 86) rfl ?_); refine goesL_ (some 9) rfl rfl Try.func86 (by kernel_rfl) rfl #[.int .i64 a0_0, .int .i64 a1_1] rfl (by (try simp only [List.map_toArray, List.map_cons, List.map_nil]); first | done | rfl) ?_; (with_reducible refine (lockgateref04_under.calls a0_0 a1_1 true _ A3.out).mono ?_); rintro e w14 ⟨rfl, hb⟩; refine ⟨_, rfl, ?_⟩; replace BK411 := bb_ hb BK411; replace BK412 := bb_ hb BK412; replace BK413 := bb_ hb BK413; replace HB := bl_ hb; (try clear hb); (try clear hb2); (try clear hk); (try clear hi)) | ((with_reducible refine gate_callee (f := 39) rfl ?_); refine goesL_ (some 17) rfl rfl Try.func39 (by kernel_rfl) rfl #[] rfl (by (try simp only [List.map_toArray, List.map_cons, List.map_nil]); first | done | rfl) ?_; (with_reducible refine (lockgateref04_SAll.calls  t415 t416 _ A5.out).mono ?_); rintro e w15 ⟨rfl, hb⟩; refine ⟨_, rfl, ?_⟩; replace BK411 := bb_ hb BK411; replace BK412 := bb_ hb BK412; replace BK413 := bb_ hb BK413; replace HB := bl_ hb; (try clear hb); (try clear hb2); (try clear hk); (try clear hi); have hcz16_0 := c0_ BK413; have hcz16_1 := c1_ BK413; have hfz16_0 := fz_ BK413 0; have hfz16_1 := fz_ BK413 1))
  refine bodyPost_ret (results_cell_row rfl _ _ gb413 28 #[.int .i64 t415, .int .i64 t416] (0, 0) _ rfl (by (with_reducible repeat (first | apply bN_ | apply bD_ | apply bA_)); refine blk_put (cs := #[.int .i64 t415, .int .i64 0]) ?_ 1 _ rfl; (with_reducible repeat (first | apply bN_ | apply bD_ | apply bA_)); refine blk_put (cs := #[.int .i64 0, .int .i64 0]) ?_ 0 _ rfl; exact bk_) Try.underlying28 rfl (by kernel_rfl)) rfl ?_
  exact ⟨vv_, bz_⟩
 ·replace c4 := Bool.eq_false_iff.mpr c4
  subst c4
  have H1 : ((lockgateref04_under.f a0_1 a1_0).bind fun t417 => (if t417 = true then ((lockgateref04_SAll.f).bind fun bt418 => (some (bt418.1, bt418.2))) else (some (wrap64 (a0_0 - a1_1), wrap64 (a0_1 - a1_0))))) = some (r1, r2) := by rw [if_neg (show ¬ (false = true) by decide)] at H; exact H
  clear H
  have H := H1
  clear H1
  replace H := Option.bind_eq_some_iff.mp H
  obtain ⟨t417, A170, H⟩ := H
  replace H : (if t417 = true then ((lockgateref04_SAll.f).bind fun bt418 => (some (bt418.1, bt418.2))) else (some (wrap64 (a0_0 - a1_1), wrap64 (a0_1 - a1_0)))) = some (r1, r2) := H
  have A17 := Aside0.mk A170
  clear A170
  by_cases c18 : t417 = true
  ·subst c18
   have H1 : ((lockgateref04_SAll.f).bind fun bt418 => (some (bt418.1, bt418.2))) = some (r1, r2) := by rw [if_pos rfl] at H; exact H
   clear H
   have H := H1
   clear H1
   replace H := Option.bind_eq_some_iff.mp H
   obtain ⟨⟨t418, t419⟩, A190, H⟩ := H
   replace H : (some (t418, t419)) = some (r1, r2) := H
   have A19 := Aside0.mk A190
   clear A190
   simp only [Option.some.injEq, Prod.mk.injEq] at H
   obtain ⟨rfl, rfl⟩ := H
   go_enter Try.func35, Try.ntmps35
   go_wp2_with (first | ((with_reducible refine gate_dst (N := 2) rfl ?_); refine bx_ 2 #[.int .i64 a0_0, .int .i64 a0_1] 28 ?_; intro gb411 hg w20 BK411 hb; have GW411 := bg_ hg; have GE411 := GW411; replace HB := bl_ hb; clear hb hg) | ((with_reducible refine gate_dst (N := 3) rfl ?_); refine bx_ 3 #[.int .i64 a1_0, .int .i64 a1_1] 28 ?_; intro gb412 hg w21 BK412 hb; have GW412 := bg_ hg; have GE412 := GW412; have NB411_412 := bm_ hg BK411; have NB412_411 := bn_ hg BK411; replace BK411 := bb_ hb BK411; replace HB := bl_ hb; clear hb hg) | ((with_reducible refine gate_dst (N := 4) rfl ?_); refine bx_ 4 #[.int .i64 0, .int .i64 0] 28 ?_; intro gb413 hg w22 BK413 hb; have GW413 := bg_ hg; have GE413 := GW413; have NB411_413 := bm_ hg BK411; have NB413_411 := bn_ hg BK411; have NB412_413 := bm_ hg BK412; have NB413_412 := bn_ hg BK412; replace BK411 := bb_ hb BK411; replace BK412 := bb_ hb BK412; replace HB := bl_ hb; clear hb hg; have hnb23 := NB411_412.out; have hnc23 := NB412_411.out; have hnb24 := NB411_413.out; have hnc24 := NB413_411.out; have hcz25_0 := c0_ BK411; have hcz25_1 := c1_ BK411; have hfz25_0 := fz_ BK411 0; have hfz25_1 := fz_ BK411 1; have hnb26 := NB412_413.out; have hnc26 := NB413_412.out; have hcz27_0 := c0_ BK412; have hcz27_1 := c1_ BK412; have hfz27_0 := fz_ BK412 0; have hfz27_1 := fz_ BK412 1) | ((with_reducible refine gate_callee (f := 86) rfl ?_); refine goesL_ (some 9) rfl rfl Try.func86 (by kernel_rfl) rfl #[.int .i64 a0_0, .int .i64 a1_1] rfl (by (try simp only [List.map_toArray, List.map_cons, List.map_nil]); first | done | rfl) ?_; (with_reducible refine (lockgateref04_under.calls a0_0 a1_1 false _ A3.out).mono ?_); rintro e w28 ⟨rfl, hb⟩; refine ⟨_, rfl, ?_⟩; replace BK411 := bb_ hb BK411; replace BK412 := bb_ hb BK412; replace BK413 := bb_ hb BK413; replace HB := bl_ hb; (try clear hb); (try clear hb2); (try clear hk); (try clear hi); have hcz29_0 := c0_ BK411; have hcz29_1 := c1_ BK411; have hfz29_0 := fz_ BK411 0; have hfz29_1 := fz_ BK411 1; have hcz30_0 := c0_ BK412; have hcz30_1 := c1_ BK412; have hfz30_0 := fz_ BK412 0; have hfz30_1 := fz_ BK412 1) | (go_at_call 86; (with_reducible refine (lockgateref04_under.calls a0_1 a1_0 true _ A17.out).mono ?_); rintro e w31 ⟨rfl, hb⟩; replace BK411 := bb_ hb BK411; replace BK412 := bb_ hb BK412; replace BK413 := bb_ hb BK413; replace HB := bl_ hb; (try clear hb); (try clear hb2); (try clear hk); (try clear hi)) | ((with_reducible refine gate_callee (f := 39) rfl ?_); refine goesL_ (some 17) rfl rfl Try.func39 (by kernel_rfl) rfl #[] rfl (by (try simp only [List.map_toArray, List.map_cons, List.map_nil]); first | done | rfl) ?_; (with_reducible refine (lockgateref04_SAll.calls  t418 t419 _ A19.out).mono ?_); rintro e w32 ⟨rfl, hb⟩; refine ⟨_, rfl, ?_⟩; replace BK411 := bb_ hb BK411; replace BK412 := bb_ hb BK412; replace BK413 := bb_ hb BK413; replace HB := bl_ hb; (try clear hb); (try clear hb2); (try clear hk); (try clear hi); have hcz33_0 := c0_ BK413; have hcz33_1 := c1_ BK413; have hfz33_0 := fz_ BK413 0; have hfz33_1 := fz_ BK413 1))
   refine bodyPost_ret (results_cell_row rfl _ _ gb413 28 #[.int .i64 t418, .int .i64 t419] (0, 0) _ rfl (by (with_reducible repeat (first | apply bN_ | apply bD_ | apply bA_)); refine blk_put (cs := #[.int .i64 t418, .int .i64 0]) ?_ 1 _ rfl; (with_reducible repeat (first | apply bN_ | apply bD_ | apply bA_)); refine blk_put (cs := #[.int .i64 0, .int .i64 0]) ?_ 0 _ rfl; exact bk_) Try.underlying28 rfl (by kernel_rfl)) rfl ?_
   exact ⟨vv_, bz_⟩
  ·replace c18 := Bool.eq_false_iff.mpr c18
   subst c18
   have H1 : (some (wrap64 (a0_0 - a1_1), wrap64 (a0_1 - a1_0))) = some (r1, r2) := by rw [if_neg (show ¬ (false = true) by decide)] at H; exact H
   clear H
   have H := H1
   clear H1
   simp only [Option.some.injEq, Prod.mk.injEq] at H
   obtain ⟨rfl, rfl⟩ := H
   go_enter Try.func35, Try.ntmps35
   go_wp2_with (first | ((with_reducible refine gate_dst (N := 2) rfl ?_); refine bx_ 2 #[.int .i64 a0_0, .int .i64 a0_1] 28 ?_; intro gb411 hg w34 BK411 hb; have GW411 := bg_ hg; have GE411 := GW411; replace HB := bl_ hb; clear hb hg) | ((with_reducible refine gate_dst (N := 3) rfl ?_); refine bx_ 3 #[.int .i64 a1_0, .int .i64 a1_1] 28 ?_; intro gb412 hg w35 BK412 hb; have GW412 := bg_ hg; have GE412 := GW412; have NB411_412 := bm_ hg BK411; have NB412_411 := bn_ hg BK411; replace BK411 := bb_ hb BK411; replace HB := bl_ hb; clear hb hg) | ((with_reducible refine gate_dst (N := 4) rfl ?_); refine bx_ 4 #[.int .i64 0, .int .i64 0] 28 ?_; intro gb413 hg w36 BK413 hb; have GW413 := bg_ hg; have GE413 := GW413; have NB411_413 := bm_ hg BK411; have NB413_411 := bn_ hg BK411; have NB412_413 := bm_ hg BK412; have NB413_412 := bn_ hg BK412; replace BK411 := bb_ hb BK411; replace BK412 := bb_ hb BK412; replace HB := bl_ hb; clear hb hg; have hnb37 := NB411_412.out; have hnc37 := NB412_411.out; have hnb38 := NB411_413.out; have hnc38 := NB413_411.out; have hcz39_0 := c0_ BK411; have hcz39_1 := c1_ BK411; have hfz39_0 := fz_ BK411 0; have hfz39_1 := fz_ BK411 1; have hnb40 := NB412_413.out; have hnc40 := NB413_412.out; have hcz41_0 := c0_ BK412; have hcz41_1 := c1_ BK412; have hfz41_0 := fz_ BK412 0; have hfz41_1 := fz_ BK412 1) | ((with_reducible refine gate_callee (f := 86) rfl ?_); refine goesL_ (some 9) rfl rfl Try.func86 (by kernel_rfl) rfl #[.int .i64 a0_0, .int .i64 a1_1] rfl (by (try simp only [List.map_toArray, List.map_cons, List.map_nil]); first | done | rfl) ?_; (with_reducible refine (lockgateref04_under.calls a0_0 a1_1 false _ A3.out).mono ?_); rintro e w42 ⟨rfl, hb⟩; refine ⟨_, rfl, ?_⟩; replace BK411 := bb_ hb BK411; replace BK412 := bb_ hb BK412; replace BK413 := bb_ hb BK413; replace HB := bl_ hb; (try clear hb); (try clear hb2); (try clear hk); (try clear hi); have hcz43_0 := c0_ BK411; have hcz43_1 := c1_ BK411; have hfz43_0 := fz_ BK411 0; have hfz43_1 := fz_ BK411 1; have hcz44_0 := c0_ BK412; have hcz44_1 := c1_ BK412; have hfz44_0 := fz_ BK412 0; have hfz44_1 := fz_ BK412 1) | (go_at_call 86; (with_reducible refine (lockgateref04_under.calls a0_1 a1_0 false _ A17.out).mono ?_); rintro e w45 ⟨rfl, hb⟩; replace BK411 := bb_ hb BK411; replace BK412 := bb_ hb BK412; replace BK413 := bb_ hb BK413; replace HB := bl_ hb; (try clear hb); (try clear hb2); (try clear hk); (try clear hi); have hcz46_0 := c0_ BK411; have hcz46_1 := c1_ BK411; have hfz46_0 := fz_ BK411 0; have hfz46_1 := fz_ BK411 1; have hcz47_0 := c0_ BK412; have hcz47_1 := c1_ BK412; have hfz47_0 := fz_ BK412 0; have hfz47_1 := fz_ BK412 1; have hcz48_0 := c0_ BK413; have hcz48_1 := c1_ BK413; have hfz48_0 := fz_ BK413 0; have hfz48_1 := fz_ BK413 1))
   refine bodyPost_ret (results_cell_row rfl _ _ gb413 28 #[.int .i64 (wrap64 (a0_0 - a1_1)), .int .i64 (wrap64 (a0_1 - a1_0))] (0, 0) _ rfl (by (with_reducible repeat (first | apply bN_ | apply bD_ | apply bA_)); refine blk_put (cs := #[.int .i64 (wrap64 (a0_0 - a1_1)), .int .i64 0]) ?_ 1 _ rfl; (with_reducible repeat (first | apply bN_ | apply bD_ | apply bA_)); refine blk_put (cs := #[.int .i64 0, .int .i64 0]) ?_ 0 _ rfl; exact bk_) Try.underlying28 rfl (by kernel_rfl)) rfl ?_
   exact ⟨vv_, bz_⟩

/-! ### lockgateref04_round: function 87 -/
def lockgateref04_round.f (a0 : Int) : Option (Int) := if (Int.tmod a0 64) < 0 then (some (wrap64 ((Int.tmod a0 64) + 64))) else (some (Int.tmod a0 64))
set_option maxHeartbeats 8000000 in
set_option maxRecDepth 100000 in
theorem lockgateref04_round.calls (a0 : Int) (r : Int) (w : World) (h : lockgateref04_round.f a0 = some r) :
 Calls Try.prog 87 #[.int .i64 a0] w fun e w' => e = .returned (.int .i64 r) ∧ Drawn0 w w' := by
 have H : (if (Int.tmod a0 64) < 0 then (some (wrap64 ((Int.tmod a0 64) + 64))) else (some (Int.tmod a0 64))) = some r := h
 clear h
 by_cases c2 : (Int.tmod a0 64) < 0
 ·rw [if_pos c2] at H
  have c2b0 : decide ((Int.tmod a0 64) < 0) = true := decide_eq_true c2
  clear c2
  obtain rfl := Option.some.inj H
  go_enter Try.func87, Try.ntmps87
  go_wp2
  go_ret
  exact ⟨by first | rfl | (simp; done) | (simp [*]; done), by repeat (first | exact Drawn0.refl _ | apply Drawn0.step)⟩
 ·rw [if_neg c2] at H
  have c2b0 : decide ((Int.tmod a0 64) < 0) = false := decide_eq_false c2
  clear c2
  obtain rfl := Option.some.inj H
  go_enter Try.func87, Try.ntmps87
  go_wp2
  go_ret
  exact ⟨by first | rfl | (simp; done) | (simp [*]; done), by repeat (first | exact Drawn0.refl _ | apply Drawn0.step)⟩

/-! ### lockgateref04_half: function 88 -/
def lockgateref04_half.f (a0 : Int) : Option (Int) := if (Int.tmod a0 2) < 0 then (some (wrap64 ((wrap64 (Int.tdiv a0 2)) - 1))) else (some (wrap64 (Int.tdiv a0 2)))
set_option maxHeartbeats 8000000 in
set_option maxRecDepth 100000 in
theorem lockgateref04_half.calls (a0 : Int) (r : Int) (w : World) (h : lockgateref04_half.f a0 = some r) :
 Calls Try.prog 88 #[.int .i64 a0] w fun e w' => e = .returned (.int .i64 r) ∧ Drawn0 w w' := by
 have H : (if (Int.tmod a0 2) < 0 then (some (wrap64 ((wrap64 (Int.tdiv a0 2)) - 1))) else (some (wrap64 (Int.tdiv a0 2)))) = some r := h
 clear h
 by_cases c2 : (Int.tmod a0 2) < 0
 ·rw [if_pos c2] at H
  have c2b0 : decide ((Int.tmod a0 2) < 0) = true := decide_eq_true c2
  clear c2
  obtain rfl := Option.some.inj H
  go_enter Try.func88, Try.ntmps88
  go_wp2
  go_ret
  exact ⟨by first | rfl | (simp; done) | (simp [*]; done), by repeat (first | exact Drawn0.refl _ | apply Drawn0.step)⟩
 ·rw [if_neg c2] at H
  have c2b0 : decide ((Int.tmod a0 2) < 0) = false := decide_eq_false c2
  clear c2
  obtain rfl := Option.some.inj H
  go_enter Try.func88, Try.ntmps88
  go_wp2
  go_ret
  exact ⟨by first | rfl | (simp; done) | (simp [*]; done), by repeat (first | exact Drawn0.refl _ | apply Drawn0.step)⟩

/-! ### lockgateref04_SArsh: function 36 -/
def lockgateref04_SArsh.l0 : Nat → Int → Int → Int → Int → Option (Int × Int)
 | 0, _, _, _, _ => none
 | k + 1, x1, x5, x421000, x421001 => (lockgateref04_round.f x1).bind fun t422 => (if x5 < t422 then ((lockgateref04_half.f x421000).bind fun t423 => ((lockgateref04_half.f x421001).bind fun t424 => (lockgateref04_SArsh.l0 k x1 (wrap64 (x5 + 1)) t423 t424))) else (some (x421000, x421001)))
def lockgateref04_SArsh.f (k : Nat) (a0_0 : Int) (a0_1 : Int) (a1 : Int) : Option (Int × Int) := lockgateref04_SArsh.l0 k a1 0 a0_0 a0_1
theorem lockgateref04_SArsh.mono_l : ∀ k, (∀ y0 y1 y2 y3, LeO (lockgateref04_SArsh.l0 k y0 y1 y2 y3) (lockgateref04_SArsh.l0 (k + 1) y0 y1 y2 y3))
 | 0 => fun _ _ _ _ r h => by simp [lockgateref04_SArsh.l0] at h
 | k + 1 => by
  have ih0 := lockgateref04_SArsh.mono_l k
  ·intro y0 y1 y2 y3
   unfold lockgateref04_SArsh.l0
   repeat' first
   | (with_reducible exact ih0 _ _ _ _)
   | (with_reducible exact LeO.refl _)
   | (with_reducible exact LeO.none _)
   | (with_reducible refine LeO.ite ?_ ?_)
   | (with_reducible refine LeO.bind ?_ (fun _ => ?_))
   | exact ih0 _ _ _ _
   | exact LeO.none _
   | refine LeO.ite ?_ ?_
   | refine LeO.bind ?_ (fun _ => ?_)
theorem lockgateref04_SArsh.mono : ∀ a0 a1 a2 k, LeO (lockgateref04_SArsh.f k a0 a1 a2) (lockgateref04_SArsh.f (k + 1) a0 a1 a2) := by
 intro a0 a1 a2 k
 have ih0 := lockgateref04_SArsh.mono_l k
 unfold lockgateref04_SArsh.f
 repeat' first
  | (with_reducible exact ih0 _ _ _ _)
  | (with_reducible exact LeO.refl _)
  | (with_reducible exact LeO.none _)
  | (with_reducible refine LeO.ite ?_ ?_)
  | (with_reducible refine LeO.bind ?_ (fun _ => ?_))
  | exact ih0 _ _ _ _
  | exact LeO.none _
  | refine LeO.ite ?_ ?_
  | refine LeO.bind ?_ (fun _ => ?_)
def lockgateref04_SArsh.T4 : Bool × List (List Nat × List Nat) := (true, [([], []), ([0], [0]), ([1], [1]), ([], []), ([3], [3]), ([4, 2], [4]), ([2, 5], [2, 5]), ([6, 5, 0, 1, 2, 3, 4, 5, 6], [6])])
def lockgateref04_SArsh.B4 : List Nat := [0, 1, 3, 0, 8, 31, 63, 127]
theorem lockgateref04_SArsh.tab4 : rtab .any (opsOf Try.f36 4) = lockgateref04_SArsh.T4 := by kernel_rfl
theorem lockgateref04_SArsh.bits4 : waitsOk lockgateref04_SArsh.T4.2 lockgateref04_SArsh.B4 = true := by kernel_rfl
set_option maxHeartbeats 8000000 in
set_option maxRecDepth 100000 in
theorem lockgateref04_SArsh.calls (k : Nat) (a0_0 : Int) (a0_1 : Int) (a1 : Int) (r1 : Int) (r2 : Int) (w : World) (h : lockgateref04_SArsh.f k a0_0 a0_1 a1 = some (r1, r2)) :
 Calls Try.prog 36 #[.agg #[.int .i64 a0_0, .int .i64 a0_1], .int .i64 a1] w fun e w' => e = .returned (.agg #[.int .i64 r1, .int .i64 r2]) ∧ Below w.heap.size w w' := by
 have hu28 := Try.underlying28
 have HB := Aside0.mk (Below.refl w.heap.size w)
 have H : (lockgateref04_SArsh.l0 k a1 0 a0_0 a0_1) = some (r1, r2) := h
 clear h
 have H' := Aside0.mk H
 clear H
 go_enter Try.func36, Try.ntmps36
 go_wp2_with (first | ((with_reducible refine gate_dst (N := 2) rfl ?_); refine bx_ 2 #[.int .i64 a0_0, .int .i64 a0_1] 28 ?_; intro gb420 hg w3 BK420 hb; have GW420 := bg_ hg; have GE420 := GW420; replace HB := bl_ hb; clear hb hg) | ((with_reducible refine gate_dst (N := 4) rfl ?_); refine bx_ 4 #[.int .i64 0, .int .i64 0] 28 ?_; intro gb421 hg w4 BK421 hb; have GW421 := bg_ hg; have GE421 := GW421; have NB420_421 := bm_ hg BK420; have NB421_420 := bn_ hg BK420; replace BK420 := bb_ hb BK420; replace HB := bl_ hb; clear hb hg))
 go_loopg [5] k (fun kq v5 w' => ∃ (x5_1 : Int) (x421000_1 : Int) (x421001_1 : Int), v5 = .int .i64 x5_1 ∧ Aside0 (lockgateref04_SArsh.l0 kq a1 x5_1 x421000_1 x421001_1 = some (r1, r2)) ∧ Aside0 (kq ≤ k) ∧ Aside0 (w'.heap[gb420]? = some (.cells #[.int .i64 x421000_1, .int .i64 x421001_1] 28 (0, 0))) ∧ Aside0 (w'.heap[gb421]? = some (.cells #[.int .i64 0, .int .i64 0] 28 (0, 0))) ∧ Aside0 (Below w.heap.size w w'))
 case atStart => exact ⟨(0), (a0_0), (a0_1), (by first | rfl | (simp; done) | (simp [*]; done)), H', ⟨Nat.le_refl _⟩, ⟨by exact bk_⟩, ⟨by exact bk_⟩, ⟨by repeat (first | (with_reducible first | exact HB.out | apply lA_ | apply lN_ | apply lD_ | refine lS_ ?_ GE420.out | refine lS_ ?_ GE421.out) | exact HB.out)⟩⟩
 case round =>
  clear H'
  try clear p2
  try clear c3
  obtain ⟨x5_1, x421000_1, x421001_1, rfl, HA, HK1, BK420, BK421, HB⟩ := hrel
  cases gk with
  | zero => exact absurd HA.out (by simp [lockgateref04_SArsh.l0])
  | succ k1 =>
   have H := HA.out
   clear HA
   simp only [lockgateref04_SArsh.l0] at H
   replace H := Option.bind_eq_some_iff.mp H
   obtain ⟨t422, A50, H⟩ := H
   replace H : (if x5_1 < t422 then ((lockgateref04_half.f x421000_1).bind fun t423 => ((lockgateref04_half.f x421001_1).bind fun t424 => (lockgateref04_SArsh.l0 k1 a1 (wrap64 (x5_1 + 1)) t423 t424))) else (some (x421000_1, x421001_1))) = some (r1, r2) := H
   have A5 := Aside0.mk A50
   clear A50
   by_cases c6 : x5_1 < t422
   ·rw [if_pos c6] at H
    have c6b0 : decide (x5_1 < t422) = true := decide_eq_true c6
    clear c6
    replace H := Option.bind_eq_some_iff.mp H
    obtain ⟨t423, A70, H⟩ := H
    replace H : ((lockgateref04_half.f x421001_1).bind fun t424 => (lockgateref04_SArsh.l0 k1 a1 (wrap64 (x5_1 + 1)) t423 t424)) = some (r1, r2) := H
    have A7 := Aside0.mk A70
    clear A70
    replace H := Option.bind_eq_some_iff.mp H
    obtain ⟨t424, A80, H⟩ := H
    replace H : (lockgateref04_SArsh.l0 k1 a1 (wrap64 (x5_1 + 1)) t423 t424) = some (r1, r2) := H
    have A8 := Aside0.mk A80
    clear A80
    have H' := Aside0.mk H
    clear H
    try go_wp2_with (first | ((with_reducible refine gate_callee (f := 87) rfl ?_); refine goesL_ (some 8) rfl rfl Try.func87 (by kernel_rfl) rfl #[.int .i64 a1] rfl (by (try simp only [List.map_toArray, List.map_cons, List.map_nil]); first | done | rfl) ?_; (with_reducible refine (lockgateref04_round.calls a1 t422 _ A5.out).mono ?_); rintro e w' ⟨rfl, ⟨nd, rfl⟩⟩; refine ⟨_, rfl, ?_⟩; (try (rw [drewN_self wr]; generalize hq_ : World.drewN wr _ = wr; have n0_ : Aside0 (wr.heap[gb420]? = some (.cells #[.int .i64 x421000_1, .int .i64 x421001_1] 28 (0, 0))) := ⟨by rw [← hq_]; exact (by exact bk_)⟩; have n1_ : Aside0 (wr.heap[gb421]? = some (.cells #[.int .i64 0, .int .i64 0] 28 (0, 0))) := ⟨by rw [← hq_]; exact (by exact bk_)⟩; have n2_ : Aside0 (Below w.heap.size w wr) := ⟨by rw [← hq_]; exact (by repeat (first | (with_reducible first | exact HB.out | apply lA_ | apply lN_ | apply lD_ | refine lS_ ?_ GE420.out | refine lS_ ?_ GE421.out) | exact HB.out))⟩; clear BK420 BK421 HB hq_; have BK420 := n0_; have BK421 := n1_; have HB := n2_; clear n0_ n1_ n2_))))
    replace BK420 := Aside0.mk (blk_drew BK420.out)
    replace BK421 := Aside0.mk (blk_drew BK421.out)
    replace HB := Aside0.mk (below_drew1 HB.out)
    refine start_ (n := 8) (S := fun w' => w'.cell? ⟨gb420, 0, none⟩ = some (.int .i64 x421000_1) ∧ w'.cell? ⟨gb420, 1, none⟩ = some (.int .i64 x421001_1)) (ds := [7]) #[n_,n_,n_,n_,n_,n_,n_,n_] (by kernel_rfl) rfl rfl ⟨c0_ BK420, c1_ BK420⟩ (fun hHeld => ?_); refine with_tabW lockgateref04_SArsh.tab4 lockgateref04_SArsh.bits4 (fun HT_ HW_ => ?_)
    generalize wr.drew = w9 at BK420 BK421 HB hHeld ⊢
    refine pq_ 0 12 #[y_,n_,n_,n_,n_,n_,n_,n_] ?_
    refine pq_ 3 15 #[y_,n_,n_,y_,n_,n_,n_,n_] ?_
    refine tq0_ 1 13 #[y_,y_,n_,y_,n_,n_,n_,n_] hHeld ?_
    refine tq0_ 4 16 #[y_,y_,n_,y_,y_,n_,n_,n_] hHeld ?_
    refine one_ (i := 2) (N := some 14) #[y_,y_,y_,y_,y_,n_,n_,n_] rfl rfl (one_of HT_.out (by kernel_rfl)) (by decide) (fun K hK => ?_)
    refine goes_ Try.func88 (by kernel_rfl) rfl #[.int .i64 x421000_1] (by rfl) rfl rfl (by (try simp only [List.map_toArray, List.map_cons, List.map_nil]); first | done | rfl) ?_
    with_reducible refine (lockgateref04_half.calls x421000_1 t423 _ A7.out).mono ?_
    rintro e w' ⟨rfl, ⟨nd, rfl⟩⟩
    refine ⟨_, rfl, ?_⟩
    refine hK.out _ _ ⟨c0_ BK420, c1_ BK420⟩ (fun hHeld => ?_)
    clear hK K
    refine norm_ (a' := ?_) ?_ ?_
    rotate_left
    ·show Act.put _ (some 14) _ = _
     simp only [Act.put, s1_, s2_, s3_, i64_w, i32_w]
     rfl
    refine one_ (i := 5) (N := some 17) #[y_,y_,y_,y_,y_,y_,n_,n_] rfl rfl (one_of HT_.out (by kernel_rfl)) (by decide) (fun K hK => ?_)
    refine goes_ Try.func88 (by kernel_rfl) rfl #[.int .i64 x421001_1] (by rfl) rfl rfl (by (try simp only [List.map_toArray, List.map_cons, List.map_nil]); first | done | rfl) ?_
    with_reducible refine (lockgateref04_half.calls x421001_1 t424 _ A8.out).mono ?_
    rintro e w' ⟨rfl, ⟨nd, rfl⟩⟩
    refine ⟨_, rfl, ?_⟩
    refine hK.out _ _ ⟨c0_ BK420, c1_ BK420⟩ (fun hHeld => ?_)
    clear hK K
    refine norm_ (a' := ?_) ?_ ?_
    rotate_left
    ·show Act.put _ (some 17) _ = _
     simp only [Act.put, s1_, s2_, s3_, i64_w, i32_w]
     rfl
    refine pq_ 6 18 #[y_,y_,y_,y_,y_,y_,y_,n_] ?_
    refine last_ (i := 7) (N := none) #[y_,y_,y_,y_,y_,y_,y_,y_] rfl rfl (one_of HT_.out (by kernel_rfl)) (by decide) (fun K hK => ?_)
    have hs10 := c0_ BK420
    have hfs10 := fz_ BK420 0
    have hns10_1 := NB421_420.out
    have hms10_1 := NB420_421.out
    have hs11 := c1_ BK420
    have hfs11 := fz_ BK420 1
    have hns11_1 := NB421_420.out
    have hms11_1 := NB420_421.out
    refine skip_ (w1 := ?_) (by rfl) rfl ?_ ?_
    rotate_left
    ·go_simp
     rfl
    refine hK.out _ _ ?_
    clear hK K
    refine done_ (done_of HT_.out (by kernel_rfl)) ?_
    try go_wp2
    go_roundg k1
    case measure => have := HK1.out; omega
    case rel => exact ⟨(wrap64 (x5_1 + 1)), (t423), (t424), (by first | rfl | (simp; done) | (simp [*]; done)), H', ⟨by have := HK1.out; omega⟩, ⟨by (with_reducible repeat (first | apply bN_ | apply bD_ | apply bA_)); refine blk_put (cs := #[.int .i64 t423, .int .i64 x421001_1]) ?_ 1 _ rfl; (with_reducible repeat (first | apply bN_ | apply bD_ | apply bA_)); refine blk_put (cs := #[.int .i64 x421000_1, .int .i64 x421001_1]) ?_ 0 _ rfl; exact bk_⟩, ⟨by (with_reducible repeat (first | apply bN_ | apply bD_ | apply bA_)); refine blk_far ?_ NB421_420.out _; (with_reducible repeat (first | apply bN_ | apply bD_ | apply bA_)); refine blk_far ?_ NB421_420.out _; exact bk_⟩, ⟨by repeat (first | (with_reducible first | exact HB.out | apply lA_ | apply lN_ | apply lD_ | refine lS_ ?_ GE420.out | refine lS_ ?_ GE421.out) | exact HB.out)⟩⟩
   ·rw [if_neg c6] at H
    have c6b0 : decide (x5_1 < t422) = false := decide_eq_false c6
    clear c6
    simp only [Option.some.injEq, Prod.mk.injEq] at H
    obtain ⟨rfl, rfl⟩ := H
    go_wp2_with (first | ((with_reducible refine gate_callee (f := 87) rfl ?_); refine goesL_ (some 8) rfl rfl Try.func87 (by kernel_rfl) rfl #[.int .i64 a1] rfl (by (try simp only [List.map_toArray, List.map_cons, List.map_nil]); first | done | rfl) ?_; (with_reducible refine (lockgateref04_round.calls a1 t422 _ A5.out).mono ?_); rintro e w' ⟨rfl, ⟨nd, rfl⟩⟩; refine ⟨_, rfl, ?_⟩; (try (rw [drewN_self wr]; generalize hq_ : World.drewN wr _ = wr; have n0_ : Aside0 (wr.heap[gb420]? = some (.cells #[.int .i64 x421000_1, .int .i64 x421001_1] 28 (0, 0))) := ⟨by rw [← hq_]; exact (by exact bk_)⟩; have n1_ : Aside0 (wr.heap[gb421]? = some (.cells #[.int .i64 0, .int .i64 0] 28 (0, 0))) := ⟨by rw [← hq_]; exact (by exact bk_)⟩; have n2_ : Aside0 (Below w.heap.size w wr) := ⟨by rw [← hq_]; exact (by repeat (first | (with_reducible first | exact HB.out | apply lA_ | apply lN_ | apply lD_ | refine lS_ ?_ GE420.out | refine lS_ ?_ GE421.out) | exact HB.out))⟩; clear BK420 BK421 HB hq_; have BK420 := n0_; have BK421 := n1_; have HB := n2_; clear n0_ n1_ n2_)); have hnb12 := NB420_421.out; have hnc12 := NB421_420.out; have hcz13_0 := c0_ BK420; have hcz13_1 := c1_ BK420; have hfz13_0 := fz_ BK420 0; have hfz13_1 := fz_ BK420 1; have hcz14_0 := c0_ BK421; have hcz14_1 := c1_ BK421; have hfz14_0 := fz_ BK421 0; have hfz14_1 := fz_ BK421 1))
    refine bodyPost_ret (results_cell_row rfl _ _ gb421 28 #[.int .i64 x421000_1, .int .i64 x421001_1] (0, 0) _ rfl (by (with_reducible repeat (first | apply bN_ | apply bD_ | apply bA_)); refine blk_put (cs := #[.int .i64 x421000_1, .int .i64 0]) ?_ 1 _ rfl; (with_reducible repeat (first | apply bN_ | apply bD_ | apply bA_)); refine blk_put (cs := #[.int .i64 0, .int .i64 0]) ?_ 0 _ rfl; exact bk_) Try.underlying28 rfl (by kernel_rfl)) rfl ?_
    exact ⟨vv_, bz_⟩

/-! ### lockgateref04_UAll: function 73 -/
def lockgateref04_UAll.f  : Option (Int × Int) := (lockgateref04_top.f).bind fun t426 => ((lockgateref04_top.f).bind fun t427 => (some (0, IntKind.u64.wrap (t426 + (IntKind.u64.wrap (t427 - 1))))))
set_option maxHeartbeats 8000000 in
set_option maxRecDepth 100000 in
theorem lockgateref04_UAll.calls  (r1 : Int) (r2 : Int) (w : World) (h : lockgateref04_UAll.f  = some (r1, r2)) :
 Calls Try.prog 73 #[] w fun e w' => e = .returned (.agg #[.int .u64 r1, .int .u64 r2]) ∧ Below w.heap.size w w' := by
 have hu26 := Try.underlying26
 have HB := Aside0.mk (Below.refl w.heap.size w)
 have H : ((lockgateref04_top.f).bind fun t426 => ((lockgateref04_top.f).bind fun t427 => (some (0, IntKind.u64.wrap (t426 + (IntKind.u64.wrap (t427 - 1))))))) = some (r1, r2) := h
 clear h
 replace H := Option.bind_eq_some_iff.mp H
 obtain ⟨t426, A10, H⟩ := H
 replace H : ((lockgateref04_top.f).bind fun t427 => (some (0, IntKind.u64.wrap (t426 + (IntKind.u64.wrap (t427 - 1)))))) = some (r1, r2) := H
 have A1 := Aside0.mk A10
 clear A10
 replace H := Option.bind_eq_some_iff.mp H
 obtain ⟨t427, A20, H⟩ := H
 replace H : (some (0, IntKind.u64.wrap (t426 + (IntKind.u64.wrap (t427 - 1))))) = some (r1, r2) := H
 have A2 := Aside0.mk A20
 clear A20
 have hdd_ : t426 = t427 := (Option.some.inj (A1.out.symm.trans A2.out))
 subst hdd_
 simp only [Option.some.injEq, Prod.mk.injEq] at H
 obtain ⟨rfl, rfl⟩ := H
 go_enter Try.func73, Try.ntmps73
 go_wp2_with (first | ((with_reducible refine gate_dst (N := 0) rfl ?_); refine bx_ 0 #[.int .u64 0, .int .u64 0] 26 ?_; intro gb425 hg w3 BK425 hb; have GW425 := bg_ hg; have GE425 := GW425; replace HB := bl_ hb; clear hb hg) | ((with_reducible refine gate_callee (f := 75) rfl ?_); refine goesL_ (some 1) rfl rfl Try.func75 (by kernel_rfl) rfl #[] rfl (by (try simp only [List.map_toArray, List.map_cons, List.map_nil]); first | done | rfl) ?_; (with_reducible refine (lockgateref04_top.calls  t426 _ A1.out).mono ?_); rintro e w' ⟨rfl, ⟨nd, rfl⟩⟩; refine ⟨_, rfl, ?_⟩; (try (rw [drewN_self w3]; generalize hq_ : World.drewN w3 _ = w3; have n0_ : Aside0 (w3.heap[gb425]? = some (.cells #[.int .u64 0, .int .u64 0] 26 (0, 0))) := ⟨by rw [← hq_]; exact (by exact bk_)⟩; have n1_ : Aside0 (Below w.heap.size w w3) := ⟨by rw [← hq_]; exact (by repeat (first | (with_reducible first | exact HB.out | apply lA_ | apply lN_ | apply lD_ | refine lS_ ?_ GE425.out) | exact HB.out))⟩; clear BK425 HB hq_; have BK425 := n0_; have HB := n1_; clear n0_ n1_)); have hcygb425_0 := c0_ BK425; have hfygb425_0 := fz_ BK425 0; have hcygb425_1 := c1_ BK425; have hfygb425_1 := fz_ BK425 1) | ((with_reducible refine gate_callee (f := 75) rfl ?_); refine goesL_ (some 2) rfl rfl Try.func75 (by kernel_rfl) rfl #[] rfl (by (try simp only [List.map_toArray, List.map_cons, List.map_nil]); first | done | rfl) ?_; (with_reducible refine (lockgateref04_top.calls  t426 _ A2.out).mono ?_); rintro e w' ⟨rfl, ⟨nd, rfl⟩⟩; refine ⟨_, rfl, ?_⟩; (try (rw [drewN_self w3]; generalize hq_ : World.drewN w3 _ = w3; have n0_ : Aside0 (w3.heap[gb425]? = some (.cells #[.int .u64 0, .int .u64 0] 26 (0, 0))) := ⟨by rw [← hq_]; exact (by exact bk_)⟩; have n1_ : Aside0 (Below w.heap.size w w3) := ⟨by rw [← hq_]; exact (by repeat (first | (with_reducible first | exact HB.out | apply lA_ | apply lN_ | apply lD_ | refine lS_ ?_ GE425.out) | exact HB.out))⟩; clear BK425 HB hq_; have BK425 := n0_; have HB := n1_; clear n0_ n1_)); have hcz4_0 := c0_ BK425; have hcz4_1 := c1_ BK425; have hfz4_0 := fz_ BK425 0; have hfz4_1 := fz_ BK425 1))
 refine bodyPost_ret (results_cell_row rfl _ _ gb425 26 #[.int .u64 0, .int .u64 (IntKind.u64.wrap (t426 + (IntKind.u64.wrap (t426 - 1))))] (0, 0) _ rfl (by (with_reducible repeat (first | apply bN_ | apply bD_ | apply bA_)); refine blk_put (cs := #[.int .u64 0, .int .u64 0]) ?_ 1 _ rfl; (with_reducible repeat (first | apply bN_ | apply bD_ | apply bA_)); refine blk_put (cs := #[.int .u64 0, .int .u64 0]) ?_ 0 _ rfl; exact bk_) Try.underlying26 rfl (by kernel_rfl)) rfl ?_
 exact ⟨vv_, bz_⟩

end Go.Proofs.Ytnephcecobocdaa.PA
