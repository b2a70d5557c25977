import Derived.Test.YticijjonimiooaaPA0
import Derived.Test.YticijjonimiooaaSq
import Derived.Test.YticijjonimiooaaPA15
namespace Go.Proofs.Yticijjonimiooaa.PA
open Go.RowKit Go.Proofs.YticijjonimiooaaW.PrintWords Go.Proofs.YticijjonimiooaaW.PrintLast Go.Proofs.YticijjonimiooaaW.PrintMore
attribute [local go_sem] max2_int min2_int max_two min_two max_three min_three max_four min_four
set_option linter.unusedVariables false
set_option linter.unusedSimpArgs false
def lockgateref02_Of.l0 : Nat → Int → List (S60) → Int → Option (Int × Bool × Bool × Bool × Bool × Bool × Bool)
 | 0, _, _, _ => none
 | k + 1, x0, x4, x5 => if x5 < (x4.length : Int) then (if 0 ≤ x5 then (if ((rd_T60 x4 x5).f0) = x0 then (some ((rd_T60 x4 x5).f0, (rd_T60 x4 x5).f1, (rd_T60 x4 x5).f2, (rd_T60 x4 x5).f3, (rd_T60 x4 x5).f4, (rd_T60 x4 x5).f5, true)) else (lockgateref02_Of.l0 k x0 x4 (wrap64 (x5 + 1)))) else (none)) else (some (0, false, false, false, false, false, false))
def lockgateref02_Of.f (k : Nat) (a0 : Int) : Option (Int × Bool × Bool × Bool × Bool × Bool × Bool) := (lockgateref02_Table.f k).bind fun t251 => (lockgateref02_Of.l0 k a0 t251 0)
theorem lockgateref02_Of.mono_l : ∀ k, (∀ y0 y1 y2, LeO (lockgateref02_Of.l0 k y0 y1 y2) (lockgateref02_Of.l0 (k + 1) y0 y1 y2))
 | 0 => fun _ _ _ r h => by simp [lockgateref02_Of.l0] at h
 | k + 1 => by
  have ih0 := lockgateref02_Of.mono_l k
  intro y0 y1 y2
  unfold lockgateref02_Of.l0
  repeat' first
  | (with_reducible exact ih0 _ _ _)
  | (with_reducible exact lockgateref02_Table.mono _)
  | (with_reducible exact LeO.refl _)
  | (with_reducible exact LeO.none _)
  | (with_reducible refine LeO.ite ?_ ?_)
  | (with_reducible refine LeO.bind ?_ (fun _ => ?_))
  | exact ih0 _ _ _
  | exact lockgateref02_Table.mono _
  | exact LeO.none _
  | refine LeO.ite ?_ ?_
  | refine LeO.bind ?_ (fun _ => ?_)
theorem lockgateref02_Of.mono : ∀ a0 k, LeO (lockgateref02_Of.f k a0) (lockgateref02_Of.f (k + 1) a0) := by
 intro a0 k
 have ih0 := lockgateref02_Of.mono_l k
 unfold lockgateref02_Of.f
 repeat' first
  | (with_reducible exact ih0 _ _ _)
  | (with_reducible exact lockgateref02_Table.mono _)
  | (with_reducible exact LeO.refl _)
  | (with_reducible exact LeO.none _)
  | (with_reducible refine LeO.ite ?_ ?_)
  | (with_reducible refine LeO.bind ?_ (fun _ => ?_))
  | exact ih0 _ _ _
  | exact lockgateref02_Table.mono _
  | exact LeO.none _
  | refine LeO.ite ?_ ?_
  | refine LeO.bind ?_ (fun _ => ?_)
set_option maxHeartbeats 8000000 in
set_option maxRecDepth 100000 in
theorem lockgateref02_Of.calls (k : Nat) (a0 : Int) (r1 : Int) (r2 : Bool) (r3 : Bool) (r4 : Bool) (r5 : Bool) (r6 : Bool) (r7 : Bool) (w : World) (h : lockgateref02_Of.f k a0 = some (r1, r2, r3, r4, r5, r6, r7)) :
 Calls Try.prog 43 #[.int .i64 a0] w fun e w' => e = .returned (.tuple #[.agg #[.int .i64 r1, .bool r2, .bool r3, .bool r4, .bool r5, .bool r6], .bool r7]) ∧ Below w.heap.size w w' := by
 have hu60 := Try.underlying60
 have HB := Aside0.mk (Below.refl w.heap.size w)
 have H : ((lockgateref02_Table.f k).bind fun t251 => (lockgateref02_Of.l0 k a0 t251 0)) = some (r1, r2, r3, r4, r5, r6, r7) := h
 clear h
 replace H := Option.bind_eq_some_iff.mp H
 obtain ⟨t251, A20, H⟩ := H
 (try dsimp only at H)
 have A2 := Aside0.mk A20
 clear A20
 have H' := Aside0.mk H
 clear H
 go_enter Try.func43, Try.ntmps43
 go_wp2_with (first | ((with_reducible refine gate_dst (N := 2) rfl ?_); refine bx_ 2 #[.int .i64 0, .bool false, .bool false, .bool false, .bool false, .bool false] 60 ?_; intro gb250 hg w3 BK250 hb; have GW250 := bg_ hg; have GE250 := GW250; replace HB := bl_ hb; clear hb hg) | ((with_reducible refine gate_callee (f := 50) rfl ?_); refine goesL_ (some 6) rfl rfl Try.func50 (by kernel_rfl) rfl #[] rfl mp_ ?_; (with_reducible refine (lockgateref02_Table.calls k  t251 _ A2.out).mono ?_); rintro e w4 ⟨v252, rfl, ho0, hb⟩; refine ⟨_, rfl, ?_⟩; have HO253 := Aside0.mk (Kd.R_lower (Kd.R_newB ho0 (g := gb250) (o := .cells #[.int .i64 0, .bool false, .bool false, .bool false, .bool false, .bool false] 60 (0, 0)) bk_) (below_size bz_)); replace BK250 := bb_ hb BK250; replace HB := bl_ hb; (try clear hb); (try clear hk); (try clear ho0)))
 go_loopg [5] k (fun kq v5 w' => ∃ (x5_1 : Int) (x251000_1 : Int) (x251001_1 : Bool) (x251002_1 : Bool) (x251003_1 : Bool) (x251004_1 : Bool) (x251005_1 : Bool), v5 = .int .i64 x5_1 ∧ Aside0 (lockgateref02_Of.l0 kq a0 t251 x5_1 = some (r1, r2, r3, r4, r5, r6, r7)) ∧ Aside0 (kq ≤ k) ∧ Aside0 (Kd.R k60 60 w' w.heap.size (fun k_ => k_ ≠ gb250) v252 t251) ∧ Aside0 (w'.heap[gb250]? = some (.cells #[.int .i64 x251000_1, .bool x251001_1, .bool x251002_1, .bool x251003_1, .bool x251004_1, .bool x251005_1] 60 (0, 0))) ∧ Aside0 (Below w.heap.size w w'))
 case atStart => exact ⟨(0), (0), (false), (false), (false), (false), (false), vs_, H', ⟨Nat.le_refl _⟩, ⟨by (with_reducible repeat (first | apply Kd.R_alloc | apply Kd.R_drewN | apply Kd.R_drew)); exact Kd.R_mono HO253.out (fun _ hk => hk.2)⟩, ⟨bk_⟩, ⟨bz_⟩⟩
 case round =>
  clear H'
  try clear p2
  try clear c4
  obtain ⟨x5_1, x251000_1, x251001_1, x251002_1, x251003_1, x251004_1, x251005_1, rfl, HA, HK1, HO_4, BK250, HB⟩ := hrel
  cases gk with
  | zero => exact absurd HA.out (by simp [lockgateref02_Of.l0])
  | succ k1 =>
   have H := HA.out
   clear HA
   simp only [lockgateref02_Of.l0] at H
   by_cases c5 : x5_1 < (t251.length : Int)
   rotate_left
   ·rw [if_neg c5] at H
    have c5b0 : decide (x5_1 < (t251.length : Int)) = false := decide_eq_false c5
    clear c5
    simp only [Option.some.injEq, Prod.mk.injEq] at H
    obtain ⟨rfl, rfl, rfl, rfl, rfl, rfl, rfl⟩ := H
    obtain ⟨Ao11, co11, eo11⟩ := Kd.R_slice HO_4.out
    subst eo11
    obtain ⟨zc12_0, zc12_1, zc12_2, zc12_3, zc12_4, zc12_5, zf12_0, zf12_1, zf12_2, zf12_3, zf12_4, zf12_5⟩ := k6_ BK250
    go_wp2
    refine bodyPost_ret (results_ct rfl _ _ gb250 60 #[.int .i64 0, .bool false, .bool false, .bool false, .bool false, .bool false] (0, 0) _ rfl (by (with_reducible repeat (first | apply bN_ | apply bD_ | apply bA_)); refine blk_put (cs := #[.int .i64 0, .bool false, .bool false, .bool false, .bool false, .bool x251005_1]) ?_ 5 _ rfl; (with_reducible repeat (first | apply bN_ | apply bD_ | apply bA_)); refine blk_put (cs := #[.int .i64 0, .bool false, .bool false, .bool false, .bool x251004_1, .bool x251005_1]) ?_ 4 _ rfl; (with_reducible repeat (first | apply bN_ | apply bD_ | apply bA_)); refine blk_put (cs := #[.int .i64 0, .bool false, .bool false, .bool x251003_1, .bool x251004_1, .bool x251005_1]) ?_ 3 _ rfl; (with_reducible repeat (first | apply bN_ | apply bD_ | apply bA_)); refine blk_put (cs := #[.int .i64 0, .bool false, .bool x251002_1, .bool x251003_1, .bool x251004_1, .bool x251005_1]) ?_ 2 _ rfl; (with_reducible repeat (first | apply bN_ | apply bD_ | apply bA_)); refine blk_put (cs := #[.int .i64 0, .bool x251001_1, .bool x251002_1, .bool x251003_1, .bool x251004_1, .bool x251005_1]) ?_ 1 _ rfl; (with_reducible repeat (first | apply bN_ | apply bD_ | apply bA_)); refine blk_put (cs := #[.int .i64 x251000_1, .bool x251001_1, .bool x251002_1, .bool x251003_1, .bool x251004_1, .bool x251005_1]) ?_ 0 _ rfl; exact bk_) Try.underlying60 rfl (by kernel_rfl)) rfl ?_
    exact ⟨vv_, bz_⟩
   rw [if_pos c5] at H
   have c5b0 : decide (x5_1 < (t251.length : Int)) = true := decide_eq_true c5
   clear c5
   by_cases c6 : 0 ≤ x5_1
   rotate_left
   ·rw [if_neg c6] at H
    exact absurd H (by simp)
   rw [if_pos c6] at H
   have c6b0 : decide (0 ≤ x5_1) = true := decide_eq_true c6
   clear c6
   by_cases c7 : ((rd_T60 t251 x5_1).f0) = a0
   ·rw [if_pos c7] at H
    have c7b0 : (((rd_T60 t251 x5_1).f0) == a0) = true := beq_iff_eq.mpr c7
    have c7b1 : (((rd_T60 t251 x5_1).f0) != a0) = false := bne_eq_false_iff_eq.mpr c7
    clear c7
    simp only [Option.some.injEq, Prod.mk.injEq] at H
    obtain ⟨rfl, rfl, rfl, rfl, rfl, rfl, rfl⟩ := H
    obtain ⟨Ao8, co8, eo8⟩ := Kd.R_slice HO_4.out
    subst eo8
    have p254 : 0 ≤ (x5_1 : Int) := of_decide_eq_true as_
    have q254 : x5_1 < (t251.length : Int) := of_decide_eq_true as_
    obtain ⟨ad254, e254, hx254_0, hx254_1, hx254_2, hx254_3, hx254_4, hx254_5⟩ := at_T60 (Kd.R_reads' HO_4.out).2.2 x5_1 p254 q254
    cases e254
    replace p254 := eq_true p254
    replace q254 := eq_true q254
    have p255 : 0 ≤ (x5_1 : Int) := of_decide_eq_true as_
    have q255 : x5_1 < (t251.length : Int) := of_decide_eq_true as_
    obtain ⟨ad255, e255, hx255_0, hx255_1, hx255_2, hx255_3, hx255_4, hx255_5⟩ := at_T60 (Kd.R_reads' HO_4.out).2.2 x5_1 p255 q255
    obtain rfl : ad254 = ad255 := (by injection e255)
    replace p255 := eq_true p255
    replace q255 := eq_true q255
    obtain ⟨zc9_0, zc9_1, zc9_2, zc9_3, zc9_4, zc9_5, zf9_0, zf9_1, zf9_2, zf9_3, zf9_4, zf9_5⟩ := k6_ BK250
    go_wp2
    refine bodyPost_ret (results_ct rfl _ _ gb250 60 #[.int .i64 ((rd_T60 t251 x5_1).f0), .bool ((rd_T60 t251 x5_1).f1), .bool ((rd_T60 t251 x5_1).f2), .bool ((rd_T60 t251 x5_1).f3), .bool ((rd_T60 t251 x5_1).f4), .bool ((rd_T60 t251 x5_1).f5)] (0, 0) _ rfl (by (with_reducible repeat (first | apply bN_ | apply bD_ | apply bA_)); refine blk_put (cs := #[.int .i64 ((rd_T60 t251 x5_1).f0), .bool ((rd_T60 t251 x5_1).f1), .bool ((rd_T60 t251 x5_1).f2), .bool ((rd_T60 t251 x5_1).f3), .bool ((rd_T60 t251 x5_1).f4), .bool x251005_1]) ?_ 5 _ rfl; (with_reducible repeat (first | apply bN_ | apply bD_ | apply bA_)); refine blk_put (cs := #[.int .i64 ((rd_T60 t251 x5_1).f0), .bool ((rd_T60 t251 x5_1).f1), .bool ((rd_T60 t251 x5_1).f2), .bool ((rd_T60 t251 x5_1).f3), .bool x251004_1, .bool x251005_1]) ?_ 4 _ rfl; (with_reducible repeat (first | apply bN_ | apply bD_ | apply bA_)); refine blk_put (cs := #[.int .i64 ((rd_T60 t251 x5_1).f0), .bool ((rd_T60 t251 x5_1).f1), .bool ((rd_T60 t251 x5_1).f2), .bool x251003_1, .bool x251004_1, .bool x251005_1]) ?_ 3 _ rfl; (with_reducible repeat (first | apply bN_ | apply bD_ | apply bA_)); refine blk_put (cs := #[.int .i64 ((rd_T60 t251 x5_1).f0), .bool ((rd_T60 t251 x5_1).f1), .bool x251002_1, .bool x251003_1, .bool x251004_1, .bool x251005_1]) ?_ 2 _ rfl; (with_reducible repeat (first | apply bN_ | apply bD_ | apply bA_)); refine blk_put (cs := #[.int .i64 ((rd_T60 t251 x5_1).f0), .bool x251001_1, .bool x251002_1, .bool x251003_1, .bool x251004_1, .bool x251005_1]) ?_ 1 _ rfl; (with_reducible repeat (first | apply bN_ | apply bD_ | apply bA_)); refine blk_put (cs := #[.int .i64 x251000_1, .bool x251001_1, .bool x251002_1, .bool x251003_1, .bool x251004_1, .bool x251005_1]) ?_ 0 _ rfl; exact bk_) Try.underlying60 rfl (by kernel_rfl)) rfl ?_
    exact ⟨vv_, bz_⟩
   rw [if_neg c7] at H
   have c7b0 : (((rd_T60 t251 x5_1).f0) == a0) = false := beq_eq_false_iff_ne.mpr c7
   have c7b1 : (((rd_T60 t251 x5_1).f0) != a0) = true := bne_iff_ne.mpr c7
   have H' := Aside0.mk H
   clear H
   obtain ⟨Ao10, co10, eo10⟩ := Kd.R_slice HO_4.out
   subst eo10
   have p254 : 0 ≤ (x5_1 : Int) := of_decide_eq_true as_
   have q254 : x5_1 < (t251.length : Int) := of_decide_eq_true as_
   obtain ⟨ad254, e254, hx254_0, hx254_1, hx254_2, hx254_3, hx254_4, hx254_5⟩ := at_T60 (Kd.R_reads' HO_4.out).2.2 x5_1 p254 q254
   cases e254
   replace p254 := eq_true p254
   replace q254 := eq_true q254
   go_wp2
   go_roundg k1
   case measure => have := HK1.out; omega
   case rel => exact ⟨(wrap64 (x5_1 + 1)), (x251000_1), (x251001_1), (x251002_1), (x251003_1), (x251004_1), (x251005_1), vs_, H', ⟨by have := HK1.out; omega⟩, ⟨by (with_reducible repeat (first | apply Kd.R_alloc | apply Kd.R_drewN | apply Kd.R_drew)); exact HO_4.out⟩, ⟨bk_⟩, ⟨bz_⟩⟩
end Go.Proofs.Yticijjonimiooaa.PA
