-- PRINTED by print.py (a twelfth state) out of the translation. Not trusted: Lean checks it.
import Derived.Test.YtnpbhippkcikoaaPA0
import Derived.Test.YtnpbhippkcikoaaSq
import Derived.Test.YtnpbhippkcikoaaPA4
namespace Go.Proofs.Ytnpbhippkcikoaa.PA
open Go.RowKit Go.Proofs.YtnpbhippkcikoaaW.PrintWords Go.Proofs.YtnpbhippkcikoaaW.PrintLast Go.Proofs.YtnpbhippkcikoaaW.PrintMore
attribute [local go_sem] max2_int min2_int max_two min_two max_three min_three max_four min_four   -- for this text's walks alone
set_option linter.unusedVariables false
set_option linter.unusedSimpArgs false

/-! ### value_side: function 27 -/
def value_side.f (a0_0 : Int) (a0_1 : Int) (a0_2 : Int) : Option (Int) := if a0_0 = 1 then (some 1) else ((value_Places.f a0_0 a0_1 a0_2).bind fun t108 => (if t108 = true then (some 2) else (some 0)))
set_option maxHeartbeats 8000000 in
set_option maxRecDepth 100000 in
theorem value_side.calls (a0_0 : Int) (a0_1 : Int) (a0_2 : Int) (r : Int) (w : World) (h : value_side.f a0_0 a0_1 a0_2 = some r) :
 Calls Try.prog 27 #[.agg #[.int .i64 a0_0, .int .u64 a0_1, .int .i64 a0_2]] w fun e w' => e = .returned (.int .i64 r) ∧ Below w.heap.size w w' := by
 have hu24 := Try.underlying24
 have HB := Aside0.mk (Below.refl w.heap.size w)
 have H : (if a0_0 = 1 then (some 1) else ((value_Places.f a0_0 a0_1 a0_2).bind fun t108 => (if t108 = true then (some 2) else (some 0)))) = some r := h
 clear h
 by_cases c2 : a0_0 = 1
 ·rw [if_pos c2] at H
  have c2b0 : (a0_0 == 1) = true := beq_iff_eq.mpr c2
  have c2b1 : (a0_0 != 1) = false := bne_eq_false_iff_eq.mpr c2
  clear c2
  obtain rfl := Option.some.inj H
  go_enter Try.func27, Try.ntmps27
  go_wp2_with (first | ((with_reducible refine gate_dst (N := 1) rfl ?_); refine bx_ 1 #[.int .i64 a0_0, .int .u64 a0_1, .int .i64 a0_2] 24 ?_; intro gb107 hg w3 BK107 hb; have GW107 := bg_ hg; have GE107 := GW107; replace HB := bl_ hb; clear hb hg; obtain ⟨zc4_0, zc4_1, zc4_2, zf4_0, zf4_1, zf4_2⟩ := k3_ BK107))
  go_ret
  exact ⟨vv_, bz_⟩
 ·rw [if_neg c2] at H
  have c2b0 : (a0_0 == 1) = false := beq_eq_false_iff_ne.mpr c2
  have c2b1 : (a0_0 != 1) = true := bne_iff_ne.mpr c2
  replace H := Option.bind_eq_some_iff.mp H
  obtain ⟨t108, A50, H⟩ := H
  replace H : (if t108 = true then (some 2) else (some 0)) = some r := H
  have A5 := Aside0.mk A50
  clear A50
  by_cases c6 : t108 = true
  ·subst c6
   have H1 : (some 2) = some r := by rw [if_pos rfl] at H; exact H
   clear H
   have H := H1
   clear H1
   obtain rfl := Option.some.inj H
   go_enter Try.func27, Try.ntmps27
   go_wp2_with (first | ((with_reducible refine gate_dst (N := 1) rfl ?_); refine bx_ 1 #[.int .i64 a0_0, .int .u64 a0_1, .int .i64 a0_2] 24 ?_; intro gb107 hg w7 BK107 hb; have GW107 := bg_ hg; have GE107 := GW107; replace HB := bl_ hb; clear hb hg; obtain ⟨zc8_0, zc8_1, zc8_2, zf8_0, zf8_1, zf8_2⟩ := k3_ BK107) | ((with_reducible refine gate_callee (f := 13) rfl ?_); refine gM_ 9 Try.func13 (value_Places.calls a0_0 a0_1 a0_2 true _ A5.out) ?_; intro w9 hb; replace BK107 := bb_ hb BK107; replace HB := bl_ hb; (try clear hb); (try clear hb2); (try clear hk); (try clear hi)))
   go_ret
   exact ⟨vv_, bz_⟩
  ·replace c6 := Bool.eq_false_iff.mpr c6
   subst c6
   have H1 : (some 0) = some r := by rw [if_neg (show ¬ (false = true) by decide)] at H; exact H
   clear H
   have H := H1
   clear H1
   obtain rfl := Option.some.inj H
   go_enter Try.func27, Try.ntmps27
   go_wp2_with (first | ((with_reducible refine gate_dst (N := 1) rfl ?_); refine bx_ 1 #[.int .i64 a0_0, .int .u64 a0_1, .int .i64 a0_2] 24 ?_; intro gb107 hg w10 BK107 hb; have GW107 := bg_ hg; have GE107 := GW107; replace HB := bl_ hb; clear hb hg; obtain ⟨zc11_0, zc11_1, zc11_2, zf11_0, zf11_1, zf11_2⟩ := k3_ BK107) | ((with_reducible refine gate_callee (f := 13) rfl ?_); refine gM_ 9 Try.func13 (value_Places.calls a0_0 a0_1 a0_2 false _ A5.out) ?_; intro w12 hb; replace BK107 := bb_ hb BK107; replace HB := bl_ hb; (try clear hb); (try clear hb2); (try clear hk); (try clear hi)))
   go_ret
   exact ⟨vv_, bz_⟩

/-! ### value_moved: function 38 -/
def value_moved.f (a0_0 : Int) (a0_1 : Int) (a0_2 : Int) (a1 : Int) : Option (Int × Int × Int) := some (a0_0, IntKind.u64.wrap (a0_1 + a1), a0_2)
set_option maxHeartbeats 8000000 in
set_option maxRecDepth 100000 in
theorem value_moved.calls (a0_0 : Int) (a0_1 : Int) (a0_2 : Int) (a1 : Int) (r1 : Int) (r2 : Int) (r3 : Int) (w : World) (h : value_moved.f a0_0 a0_1 a0_2 a1 = some (r1, r2, r3)) :
 Calls Try.prog 38 #[.agg #[.int .i64 a0_0, .int .u64 a0_1, .int .i64 a0_2], .int .u64 a1] w fun e w' => e = .returned (.agg #[.int .i64 r1, .int .u64 r2, .int .i64 r3]) ∧ Below w.heap.size w w' := by
 have hu24 := Try.underlying24
 have HB := Aside0.mk (Below.refl w.heap.size w)
 have H : (some (a0_0, IntKind.u64.wrap (a0_1 + a1), a0_2)) = some (r1, r2, r3) := h
 clear h
 simp only [Option.some.injEq, Prod.mk.injEq] at H
 obtain ⟨rfl, rfl, rfl⟩ := H
 go_enter Try.func38, Try.ntmps38
 go_wp2_with (first | ((with_reducible refine gate_dst (N := 2) rfl ?_); refine bx_ 2 #[.int .i64 a0_0, .int .u64 a0_1, .int .i64 a0_2] 24 ?_; intro gb109 hg w3 BK109 hb; have GW109 := bg_ hg; have GE109 := GW109; replace HB := bl_ hb; clear hb hg) | ((with_reducible refine gate_dst (N := 4) rfl ?_); refine bx_ 4 #[.int .i64 0, .int .u64 0, .int .i64 0] 24 ?_; intro gb110 hg w4 BK110 hb; have GW110 := bg_ hg; have GE110 := GW110; have NB109_110 := bm_ hg BK109; have NB110_109 := bn_ hg BK109; replace BK109 := bb_ hb BK109; replace HB := bl_ hb; clear hb hg; have hnb5 := NB109_110.out; have hnc5 := NB110_109.out; obtain ⟨zc6_0, zc6_1, zc6_2, zf6_0, zf6_1, zf6_2⟩ := k3_ BK109; obtain ⟨zc7_0, zc7_1, zc7_2, zf7_0, zf7_1, zf7_2⟩ := k3_ BK110))
 refine bodyPost_ret (results_cell_row rfl _ _ gb110 24 #[.int .i64 a0_0, .int .u64 (IntKind.u64.wrap (a0_1 + a1)), .int .i64 a0_2] (0, 0) _ rfl (by (with_reducible repeat (first | apply bN_ | apply bD_ | apply bA_)); refine blk_put (cs := #[.int .i64 a0_0, .int .u64 (IntKind.u64.wrap (a0_1 + a1)), .int .i64 0]) ?_ 2 _ rfl; (with_reducible repeat (first | apply bN_ | apply bD_ | apply bA_)); refine blk_put (cs := #[.int .i64 a0_0, .int .u64 0, .int .i64 0]) ?_ 1 _ rfl; (with_reducible repeat (first | apply bN_ | apply bD_ | apply bA_)); refine blk_put (cs := #[.int .i64 0, .int .u64 0, .int .i64 0]) ?_ 0 _ rfl; (with_reducible repeat (first | apply bN_ | apply bD_ | apply bA_)); refine blk_far ?_ NB110_109.out _; exact bk_) Try.underlying24 rfl (by kernel_rfl)) rfl ?_
 exact ⟨vv_, bz_⟩

end Go.Proofs.Ytnpbhippkcikoaa.PA
