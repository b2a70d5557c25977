-- PRINTED by print.py (a twelfth state) out of the translation. Not trusted: Lean checks it.
import Derived.Test.YtnephcecobocdaaWTab
import Derived.Test.YtnephcecobocdaaPA0
import Derived.Test.YtnephcecobocdaaSq
import Derived.Test.YtnephcecobocdaaPA18
import Derived.Test.YtnephcecobocdaaPA19
namespace Go.Proofs.Ytnephcecobocdaa.PA
open Go.RowKit Go.Proofs.YtnephcecobocdaaW.PrintWords Go.Proofs.YtnephcecobocdaaW.PrintLast Go.Proofs.YtnephcecobocdaaW.PrintMore
attribute [local go_sem] max2_int min2_int max_two min_two max_three min_three max_four min_four   -- for this text's walks alone
set_option linter.unusedVariables false
set_option linter.unusedSimpArgs false

/-! ### lockgateref04_UMod: function 64 -/
def lockgateref04_UMod.j0 : Nat → Bool → Int → Int → Int → Int → Option (Int × Int)
 | 0, _, _, _, _, _ => none
 | k + 1, x12, x663000, x663001, x664000, x664001 => if x12 = true then (some (0, x663001)) else (if x663001 < x664000 then (some (x663000, x663001)) else ((lockgateref04_alone.f x663000 x663001).bind fun t666 => (if t666 = true then (if x664000 = 0 then (none) else ((lockgateref04_UOf.f (IntKind.u64.wrap (x663000 - (IntKind.u64.wrap ((IntKind.u64.wrap (Int.tdiv x663000 x664000)) * x664000))))).bind fun bt667 => (some (bt667.1, bt667.2)))) else (some (0, IntKind.u64.wrap (x664000 - 1))))))
def lockgateref04_UMod.f (k : Nat) (a0_0 : Int) (a0_1 : Int) (a1_0 : Int) (a1_1 : Int) : Option (Int × Int) := (lockgateref04_alone.f a1_0 a1_1).bind fun t665 => (if t665 = true then (lockgateref04_UMod.j0 k (a1_0 == 0) a0_0 a0_1 a1_0 a1_1) else (lockgateref04_UMod.j0 k true a0_0 a0_1 a1_0 a1_1))
theorem lockgateref04_UMod.mono_l : ∀ k, (∀ y0 y1 y2 y3 y4, LeO (lockgateref04_UMod.j0 k y0 y1 y2 y3 y4) (lockgateref04_UMod.j0 (k + 1) y0 y1 y2 y3 y4))
 | 0 => fun _ _ _ _ _ r h => by simp [lockgateref04_UMod.j0] at h
 | k + 1 => by
  have ih0 := lockgateref04_UMod.mono_l k
  ·intro y0 y1 y2 y3 y4
   unfold lockgateref04_UMod.j0
   repeat' first
   | (with_reducible exact ih0 _ _ _ _ _)
   | (with_reducible exact LeO.refl _)
   | (with_reducible exact LeO.none _)
   | (with_reducible refine LeO.ite ?_ ?_)
   | (with_reducible refine LeO.bind ?_ (fun _ => ?_))
   | exact ih0 _ _ _ _ _
   | exact LeO.none _
   | refine LeO.ite ?_ ?_
   | refine LeO.bind ?_ (fun _ => ?_)
theorem lockgateref04_UMod.mono : ∀ a0 a1 a2 a3 k, LeO (lockgateref04_UMod.f k a0 a1 a2 a3) (lockgateref04_UMod.f (k + 1) a0 a1 a2 a3) := by
 intro a0 a1 a2 a3 k
 have ih0 := lockgateref04_UMod.mono_l k
 unfold lockgateref04_UMod.f
 repeat' first
  | (with_reducible exact ih0 _ _ _ _ _)
  | (with_reducible exact LeO.refl _)
  | (with_reducible exact LeO.none _)
  | (with_reducible refine LeO.ite ?_ ?_)
  | (with_reducible refine LeO.bind ?_ (fun _ => ?_))
  | exact ih0 _ _ _ _ _
  | exact LeO.none _
  | refine LeO.ite ?_ ?_
  | refine LeO.bind ?_ (fun _ => ?_)
def lockgateref04_UMod.T6 : Bool × List (List Nat × List Nat) := (true, [([], []), ([0], [0]), ([], []), ([2], [2]), ([], []), ([4], [4]), ([3, 5], [3, 5]), ([], []), ([7], [7]), ([6, 8], [6, 8]), ([1, 9], [1, 9]), ([10], [10]), ([11, 11, 0, 1, 2, 3, 4, 5, 6, 7, 8, 9, 10, 11], [11])])
def lockgateref04_UMod.B6 : List Nat := [0, 1, 0, 4, 0, 16, 60, 0, 128, 508, 1023, 2047, 4095]
theorem lockgateref04_UMod.tab6 : rtab .any (opsOf Try.f64 6) = lockgateref04_UMod.T6 := by kernel_rfl
theorem lockgateref04_UMod.bits6 : waitsOk lockgateref04_UMod.T6.2 lockgateref04_UMod.B6 = true := by kernel_rfl
set_option maxHeartbeats 8000000 in
set_option maxRecDepth 100000 in
theorem lockgateref04_UMod.calls (k : Nat) (a0_0 : Int) (a0_1 : Int) (a1_0 : Int) (a1_1 : Int) (r1 : Int) (r2 : Int) (w : World) (h : lockgateref04_UMod.f k a0_0 a0_1 a1_0 a1_1 = some (r1, r2)) :
 Calls Try.prog 64 #[.agg #[.int .u64 a0_0, .int .u64 a0_1], .agg #[.int .u64 a1_0, .int .u64 a1_1]] w fun e w' => e = .returned (.agg #[.int .u64 r1, .int .u64 r2]) ∧ Below w.heap.size w w' := by
 have hu26 := Try.underlying26
 have HB := Aside0.mk (Below.refl w.heap.size w)
 have H : ((lockgateref04_alone.f a1_0 a1_1).bind fun t665 => (if t665 = true then (lockgateref04_UMod.j0 k (a1_0 == 0) a0_0 a0_1 a1_0 a1_1) else (lockgateref04_UMod.j0 k true a0_0 a0_1 a1_0 a1_1))) = some (r1, r2) := h
 clear h
 have HC3 := Aside0.mk H
 clear H
 go_enter Try.func64, Try.ntmps64
 go_upto_region 1 with (first | ((with_reducible refine gate_dst (N := 2) rfl ?_); refine bx_ 2 #[.int .u64 a0_0, .int .u64 a0_1] 26 ?_; intro gb662 hg w4 BK662 hb; have GW662 := bg_ hg; have GE662 := GW662; replace HB := bl_ hb; clear hb hg) | ((with_reducible refine gate_dst (N := 3) rfl ?_); refine bx_ 3 #[.int .u64 a1_0, .int .u64 a1_1] 26 ?_; intro gb663 hg w5 BK663 hb; have GW663 := bg_ hg; have GE663 := GW663; have NB662_663 := bm_ hg BK662; have NB663_662 := bn_ hg BK662; replace BK662 := bb_ hb BK662; replace HB := bl_ hb; clear hb hg) | ((with_reducible refine gate_dst (N := 4) rfl ?_); refine bx_ 4 #[.int .u64 0, .int .u64 0] 26 ?_; intro gb664 hg w6 BK664 hb; have GW664 := bg_ hg; have GE664 := GW664; have NB662_664 := bm_ hg BK662; have NB664_662 := bn_ hg BK662; have NB663_664 := bm_ hg BK663; have NB664_663 := bn_ hg BK663; replace BK662 := bb_ hb BK662; replace BK663 := bb_ hb BK663; replace HB := bl_ hb; clear hb hg))
 (try simp only [Act.put, s1_, s2_, s3_])
 go_cut [12] (fun v12 wc => ∃ (kq : Nat) (x12_2 : Bool), v12 = .bool x12_2 ∧ Aside0 (lockgateref04_UMod.j0 kq x12_2 a0_0 a0_1 a1_0 a1_1 = some (r1, r2)) ∧ Aside0 (kq ≤ k) ∧ Aside0 (wc.heap[gb662]? = some (.cells #[.int .u64 a0_0, .int .u64 a0_1] 26 (0, 0))) ∧ Aside0 (wc.heap[gb663]? = some (.cells #[.int .u64 a1_0, .int .u64 a1_1] 26 (0, 0))) ∧ Aside0 (wc.heap[gb664]? = some (.cells #[.int .u64 0, .int .u64 0] 26 (0, 0))) ∧ Aside0 (Below w.heap.size w wc))
 case first =>
  have H := HC3.out
  clear HC3
  replace H := Option.bind_eq_some_iff.mp H
  obtain ⟨t665, A70, H⟩ := H
  replace H : (if t665 = true then (lockgateref04_UMod.j0 k (a1_0 == 0) a0_0 a0_1 a1_0 a1_1) else (lockgateref04_UMod.j0 k true a0_0 a0_1 a1_0 a1_1)) = some (r1, r2) := H
  have A7 := Aside0.mk A70
  clear A70
  by_cases c8 : t665 = true
  ·subst c8
   have H1 : (lockgateref04_UMod.j0 k (a1_0 == 0) a0_0 a0_1 a1_0 a1_1) = some (r1, r2) := by rw [if_pos rfl] at H; exact H
   clear H
   have H := H1
   clear H1
   have H' := Aside0.mk H
   clear H
   have hnb9 := NB663_662.out
   have hnc9 := NB662_663.out
   have hnb10 := NB663_664.out
   have hnc10 := NB664_663.out
   have hcz11_0 := c0_ BK663
   have hcz11_1 := c1_ BK663
   have hfz11_0 := fz_ BK663 0
   have hfz11_1 := fz_ BK663 1
   go_wp2_with (first | ((with_reducible refine gate_callee (f := 92) rfl ?_); refine goesL_ (some 6) rfl rfl Try.func92 (by kernel_rfl) rfl #[.agg #[.int .u64 a1_0, .int .u64 a1_1]] rfl (by (try simp only [List.map_toArray, List.map_cons, List.map_nil]); first | done | rfl) ?_; (with_reducible refine (lockgateref04_alone.calls a1_0 a1_1 true _ A7.out).mono ?_); rintro e w12 ⟨rfl, hb⟩; refine ⟨_, rfl, ?_⟩; replace BK662 := bb_ hb BK662; replace BK663 := bb_ hb BK663; replace BK664 := bb_ hb BK664; replace HB := bl_ hb; (try clear hb); (try clear hb2); (try clear hk); (try clear hi); have hcz13_0 := c0_ BK663; have hcz13_1 := c1_ BK663; have hfz13_0 := fz_ BK663 0; have hfz13_1 := fz_ BK663 1))
   go_meet
   case rel => exact ⟨_, ((a1_0 == 0)), (by first | rfl | (simp; done) | (simp [*]; done)), H', ⟨by first | omega | exact Nat.le_refl _⟩, ⟨by exact bk_⟩, ⟨by exact bk_⟩, ⟨by exact bk_⟩, ⟨by repeat (first | (with_reducible first | exact HB.out | apply lA_ | apply lN_ | apply lD_ | refine lS_ ?_ GE662.out | refine lS_ ?_ GE663.out | refine lS_ ?_ GE664.out) | exact HB.out)⟩⟩
  ·replace c8 := Bool.eq_false_iff.mpr c8
   subst c8
   have H1 : (lockgateref04_UMod.j0 k true a0_0 a0_1 a1_0 a1_1) = some (r1, r2) := by rw [if_neg (show ¬ (false = true) by decide)] at H; exact H
   clear H
   have H := H1
   clear H1
   have H' := Aside0.mk H
   clear H
   have hnb14 := NB663_662.out
   have hnc14 := NB662_663.out
   have hnb15 := NB663_664.out
   have hnc15 := NB664_663.out
   have hcz16_0 := c0_ BK663
   have hcz16_1 := c1_ BK663
   have hfz16_0 := fz_ BK663 0
   have hfz16_1 := fz_ BK663 1
   go_wp2_with (first | ((with_reducible refine gate_callee (f := 92) rfl ?_); refine goesL_ (some 6) rfl rfl Try.func92 (by kernel_rfl) rfl #[.agg #[.int .u64 a1_0, .int .u64 a1_1]] rfl (by (try simp only [List.map_toArray, List.map_cons, List.map_nil]); first | done | rfl) ?_; (with_reducible refine (lockgateref04_alone.calls a1_0 a1_1 false _ A7.out).mono ?_); rintro e w17 ⟨rfl, hb⟩; refine ⟨_, rfl, ?_⟩; replace BK662 := bb_ hb BK662; replace BK663 := bb_ hb BK663; replace BK664 := bb_ hb BK664; replace HB := bl_ hb; (try clear hb); (try clear hb2); (try clear hk); (try clear hi)))
   go_meet
   case rel => exact ⟨_, (true), (by first | rfl | (simp; done) | (simp [*]; done)), H', ⟨by first | omega | exact Nat.le_refl _⟩, ⟨by exact bk_⟩, ⟨by exact bk_⟩, ⟨by exact bk_⟩, ⟨by repeat (first | (with_reducible first | exact HB.out | apply lA_ | apply lN_ | apply lD_ | refine lS_ ?_ GE662.out | refine lS_ ?_ GE663.out | refine lS_ ?_ GE664.out) | exact HB.out)⟩⟩
 case rest =>
  clear HC3
  try clear c1
  try clear p2
  try clear c6
  try clear c8
  try clear c9
  try clear c10
  try clear c14
  try clear c15
  try clear hcz11_0
  try clear hcz11_1
  try clear hcz13_0
  try clear hcz13_1
  try clear hcz16_0
  try clear hcz16_1
  try clear hfz11_0
  try clear hfz11_1
  try clear hfz13_0
  try clear hfz13_1
  try clear hfz16_0
  try clear hfz16_1
  obtain ⟨kq, x12_2, rfl, HA, HJ2, BK662, BK663, BK664, HB⟩ := hcut
  cases kq with
  | zero => exact absurd HA.out (by simp [lockgateref04_UMod.j0])
  | succ kj2 =>
   have H := HA.out
   clear HA
   simp only [lockgateref04_UMod.j0] at H
   by_cases c18 : x12_2 = true
   ·subst c18
    have H1 : (some (0, a0_1)) = some (r1, r2) := by rw [if_pos rfl] at H; exact H
    clear H
    have H := H1
    clear H1
    simp only [Option.some.injEq, Prod.mk.injEq] at H
    obtain ⟨rfl, rfl⟩ := H
    have hnb19 := NB662_663.out
    have hnc19 := NB663_662.out
    have hnb20 := NB662_664.out
    have hnc20 := NB664_662.out
    have hcz21_0 := c0_ BK662
    have hcz21_1 := c1_ BK662
    have hfz21_0 := fz_ BK662 0
    have hfz21_1 := fz_ BK662 1
    have hnb22 := NB664_663.out
    have hnc22 := NB663_664.out
    have hcz23_0 := c0_ BK664
    have hcz23_1 := c1_ BK664
    have hfz23_0 := fz_ BK664 0
    have hfz23_1 := fz_ BK664 1
    go_wp2
    refine bodyPost_ret (results_cell_row rfl _ _ gb664 26 #[.int .u64 0, .int .u64 a0_1] (0, 0) _ rfl (by (with_reducible repeat (first | apply bN_ | apply bD_ | apply bA_)); refine blk_put (cs := #[.int .u64 0, .int .u64 0]) ?_ 1 _ rfl; (with_reducible repeat (first | apply bN_ | apply bD_ | apply bA_)); refine blk_put (cs := #[.int .u64 0, .int .u64 0]) ?_ 0 _ rfl; exact bk_) Try.underlying26 rfl (by kernel_rfl)) rfl ?_
    exact ⟨vv_, bz_⟩
   ·replace c18 := Bool.eq_false_iff.mpr c18
    subst c18
    have H1 : (if a0_1 < a1_0 then (some (a0_0, a0_1)) else ((lockgateref04_alone.f a0_0 a0_1).bind fun t666 => (if t666 = true then (if a1_0 = 0 then (none) else ((lockgateref04_UOf.f (IntKind.u64.wrap (a0_0 - (IntKind.u64.wrap ((IntKind.u64.wrap (Int.tdiv a0_0 a1_0)) * a1_0))))).bind fun bt667 => (some (bt667.1, bt667.2)))) else (some (0, IntKind.u64.wrap (a1_0 - 1)))))) = some (r1, r2) := by rw [if_neg (show ¬ (false = true) by decide)] at H; exact H
    clear H
    have H := H1
    clear H1
    by_cases c24 : a0_1 < a1_0
    ·rw [if_pos c24] at H
     have c24b0 : decide (a0_1 < a1_0) = true := decide_eq_true c24
     clear c24
     simp only [Option.some.injEq, Prod.mk.injEq] at H
     obtain ⟨rfl, rfl⟩ := H
     have hnb25 := NB662_663.out
     have hnc25 := NB663_662.out
     have hnb26 := NB662_664.out
     have hnc26 := NB664_662.out
     have hcz27_0 := c0_ BK662
     have hcz27_1 := c1_ BK662
     have hfz27_0 := fz_ BK662 0
     have hfz27_1 := fz_ BK662 1
     have hnb28 := NB663_664.out
     have hnc28 := NB664_663.out
     have hcz29_0 := c0_ BK663
     have hcz29_1 := c1_ BK663
     have hfz29_0 := fz_ BK663 0
     have hfz29_1 := fz_ BK663 1
     have hcz30_0 := c0_ BK664
     have hcz30_1 := c1_ BK664
     have hfz30_0 := fz_ BK664 0
     have hfz30_1 := fz_ BK664 1
     go_wp2
     refine bodyPost_ret (results_cell_row rfl _ _ gb664 26 #[.int .u64 a0_0, .int .u64 a0_1] (0, 0) _ rfl (by (with_reducible repeat (first | apply bN_ | apply bD_ | apply bA_)); refine blk_put (cs := #[.int .u64 a0_0, .int .u64 0]) ?_ 1 _ rfl; (with_reducible repeat (first | apply bN_ | apply bD_ | apply bA_)); refine blk_put (cs := #[.int .u64 0, .int .u64 0]) ?_ 0 _ rfl; exact bk_) Try.underlying26 rfl (by kernel_rfl)) rfl ?_
     exact ⟨vv_, bz_⟩
    ·rw [if_neg c24] at H
     have c24b0 : decide (a0_1 < a1_0) = false := decide_eq_false c24
     clear c24
     replace H := Option.bind_eq_some_iff.mp H
     obtain ⟨t666, A310, H⟩ := H
     replace H : (if t666 = true then (if a1_0 = 0 then (none) else ((lockgateref04_UOf.f (IntKind.u64.wrap (a0_0 - (IntKind.u64.wrap ((IntKind.u64.wrap (Int.tdiv a0_0 a1_0)) * a1_0))))).bind fun bt667 => (some (bt667.1, bt667.2)))) else (some (0, IntKind.u64.wrap (a1_0 - 1)))) = some (r1, r2) := H
     have A31 := Aside0.mk A310
     clear A310
     by_cases c32 : t666 = true
     ·subst c32
      have H1 : (if a1_0 = 0 then (none) else ((lockgateref04_UOf.f (IntKind.u64.wrap (a0_0 - (IntKind.u64.wrap ((IntKind.u64.wrap (Int.tdiv a0_0 a1_0)) * a1_0))))).bind fun bt667 => (some (bt667.1, bt667.2)))) = some (r1, r2) := by rw [if_pos rfl] at H; exact H
      clear H
      have H := H1
      clear H1
      by_cases c33 : a1_0 = 0
      ·rw [if_pos c33] at H
       exact absurd H (by simp)
      ·rw [if_neg c33] at H
       have c33b0 : (a1_0 == 0) = false := beq_eq_false_iff_ne.mpr c33
       have c33b1 : (a1_0 != 0) = true := bne_iff_ne.mpr c33
       replace H := Option.bind_eq_some_iff.mp H
       obtain ⟨⟨t667, t668⟩, A340, H⟩ := H
       replace H : (some (t667, t668)) = some (r1, r2) := H
       have A34 := Aside0.mk A340
       clear A340
       simp only [Option.some.injEq, Prod.mk.injEq] at H
       obtain ⟨rfl, rfl⟩ := H
       have hnb35 := NB662_663.out
       have hnc35 := NB663_662.out
       have hnb36 := NB662_664.out
       have hnc36 := NB664_662.out
       have hcz37_0 := c0_ BK662
       have hcz37_1 := c1_ BK662
       have hfz37_0 := fz_ BK662 0
       have hfz37_1 := fz_ BK662 1
       have hnb38 := NB663_664.out
       have hnc38 := NB664_663.out
       have hcz39_0 := c0_ BK663
       have hcz39_1 := c1_ BK663
       have hfz39_0 := fz_ BK663 0
       have hfz39_1 := fz_ BK663 1
       try go_wp2_with (first | ((with_reducible refine gate_callee (f := 92) rfl ?_); refine goesL_ (some 23) rfl rfl Try.func92 (by kernel_rfl) rfl #[.agg #[.int .u64 a0_0, .int .u64 a0_1]] rfl (by (try simp only [List.map_toArray, List.map_cons, List.map_nil]); first | done | rfl) ?_; (with_reducible refine (lockgateref04_alone.calls a0_0 a0_1 true _ A31.out).mono ?_); rintro e w40 ⟨rfl, hb⟩; refine ⟨_, rfl, ?_⟩; replace BK662 := bb_ hb BK662; replace BK663 := bb_ hb BK663; replace BK664 := bb_ hb BK664; replace HB := bl_ hb; (try clear hb); (try clear hb2); (try clear hk); (try clear hi)))
       replace BK662 := Aside0.mk (blk_drew BK662.out)
       replace BK663 := Aside0.mk (blk_drew BK663.out)
       replace BK664 := Aside0.mk (blk_drew BK664.out)
       replace HB := Aside0.mk (below_drew1 HB.out)
       refine start_ (n := 13) (S := fun w' => w'.cell? ⟨gb662, 0, none⟩ = some (.int .u64 a0_0) ∧ w'.cell? ⟨gb662, 1, none⟩ = some (.int .u64 a0_1) ∧ w'.cell? ⟨gb663, 0, none⟩ = some (.int .u64 a1_0) ∧ w'.cell? ⟨gb663, 1, none⟩ = some (.int .u64 a1_1)) (ds := []) #[n_,n_,n_,n_,n_,n_,n_,n_,n_,n_,n_,n_,n_] (by kernel_rfl) rfl rfl ⟨c0_ BK662, c1_ BK662, c0_ BK663, c1_ BK663⟩ (fun hHeld => ?_); refine with_tabW lockgateref04_UMod.tab6 lockgateref04_UMod.bits6 (fun HT_ HW_ => ?_)
       generalize w40.drew = w41 at BK662 BK663 BK664 HB hHeld ⊢
       refine pq_ 0 24 #[y_,n_,n_,n_,n_,n_,n_,n_,n_,n_,n_,n_,n_] ?_
       refine pq_ 2 26 #[y_,n_,y_,n_,n_,n_,n_,n_,n_,n_,n_,n_,n_] ?_
       refine pq_ 4 28 #[y_,n_,y_,n_,y_,n_,n_,n_,n_,n_,n_,n_,n_] ?_
       refine pq_ 7 31 #[y_,n_,y_,n_,y_,n_,n_,y_,n_,n_,n_,n_,n_] ?_
       refine tq1_ 1 25 #[y_,y_,y_,n_,y_,n_,n_,y_,n_,n_,n_,n_,n_] hHeld ?_
       refine tq1_ 3 27 #[y_,y_,y_,y_,y_,n_,n_,y_,n_,n_,n_,n_,n_] hHeld ?_
       refine tq1_ 5 29 #[y_,y_,y_,y_,y_,y_,n_,y_,n_,n_,n_,n_,n_] hHeld ?_
       refine pq_ 6 30 #[y_,y_,y_,y_,y_,y_,y_,y_,n_,n_,n_,n_,n_] ?_
       refine tq1_ 8 32 #[y_,y_,y_,y_,y_,y_,y_,y_,y_,n_,n_,n_,n_] hHeld ?_
       refine pq_ 9 33 #[y_,y_,y_,y_,y_,y_,y_,y_,y_,y_,n_,n_,n_] ?_
       refine pq_ 10 34 #[y_,y_,y_,y_,y_,y_,y_,y_,y_,y_,y_,n_,n_] ?_
       refine one_ (i := 11) (N := some 35) #[y_,y_,y_,y_,y_,y_,y_,y_,y_,y_,y_,y_,n_] rfl rfl (one_of HT_.out (by kernel_rfl)) (by decide) (fun K hK => ?_)
       refine goes_ Try.func74 (by kernel_rfl) rfl #[.int .u64 (IntKind.u64.wrap (a0_0 - (IntKind.u64.wrap ((IntKind.u64.wrap (Int.tdiv a0_0 a1_0)) * a1_0))))] (by rfl) rfl rfl (by (try simp only [List.map_toArray, List.map_cons, List.map_nil]); first | done | rfl) ?_
       with_reducible refine (lockgateref04_UOf.calls (IntKind.u64.wrap (a0_0 - (IntKind.u64.wrap ((IntKind.u64.wrap (Int.tdiv a0_0 a1_0)) * a1_0)))) t667 t668 _ A34.out).mono ?_
       rintro e w42 ⟨rfl, hb⟩
       refine ⟨_, rfl, ?_⟩
       replace BK662 := bb_ hb BK662
       replace BK663 := bb_ hb BK663
       replace BK664 := bb_ hb BK664
       replace HB := bl_ hb
       try clear hb
       refine hK.out _ _ ⟨c0_ BK662, c1_ BK662, c0_ BK663, c1_ BK663⟩ (fun hHeld => ?_)
       clear hK K
       refine norm_ (a' := ?_) ?_ ?_
       rotate_left
       ·show Act.put _ (some 35) _ = _
        simp only [Act.put, s1_, s2_, s3_, i64_w, i32_w]
        rfl
       refine one_ (i := 12) (N := none) #[y_,y_,y_,y_,y_,y_,y_,y_,y_,y_,y_,y_,y_] rfl rfl (one_of HT_.out (by kernel_rfl)) (by decide) (fun K hK => ?_)
       have hs43 := c0_ BK664
       have hfs43 := fz_ BK664 0
       have hns43_0 := NB662_664.out
       have hns43_1 := NB663_664.out
       have hms43_0 := NB664_662.out
       have hms43_1 := NB664_663.out
       have hs44 := c1_ BK664
       have hfs44 := fz_ BK664 1
       have hns44_0 := NB662_664.out
       have hns44_1 := NB663_664.out
       have hms44_0 := NB664_662.out
       have hms44_1 := NB664_663.out
       refine skip_ (w1 := ?_) (by rfl) rfl ?_ ?_
       rotate_left
       ·go_simp
        rfl
       refine hK.out _ _ ⟨((cell_far (p := ⟨gb664, _, none⟩) NB662_664.out _).trans (((cell_far (p := ⟨gb664, _, none⟩) NB662_664.out _).trans (hHeld.1)))), ((cell_far (p := ⟨gb664, _, none⟩) NB662_664.out _).trans (((cell_far (p := ⟨gb664, _, none⟩) NB662_664.out _).trans (hHeld.2.1)))), ((cell_far (p := ⟨gb664, _, none⟩) NB663_664.out _).trans (((cell_far (p := ⟨gb664, _, none⟩) NB663_664.out _).trans (hHeld.2.2.1)))), ((cell_far (p := ⟨gb664, _, none⟩) NB663_664.out _).trans (((cell_far (p := ⟨gb664, _, none⟩) NB663_664.out _).trans (hHeld.2.2.2))))⟩ (fun hHeld => ?_)
       clear hK K
       refine done_ (done_of HT_.out (by kernel_rfl)) ?_
       try go_wp2
       refine bodyPost_ret (results_cell_row rfl _ _ gb664 26 #[.int .u64 t667, .int .u64 t668] (0, 0) _ rfl (by (with_reducible repeat (first | apply bN_ | apply bD_ | apply bA_)); refine blk_put (cs := #[.int .u64 t667, .int .u64 0]) ?_ 1 _ rfl; (with_reducible repeat (first | apply bN_ | apply bD_ | apply bA_)); refine blk_put (cs := #[.int .u64 0, .int .u64 0]) ?_ 0 _ rfl; exact bk_) Try.underlying26 rfl (by kernel_rfl)) rfl ?_
       exact ⟨vv_, bz_⟩
     ·replace c32 := Bool.eq_false_iff.mpr c32
      subst c32
      have H1 : (some (0, IntKind.u64.wrap (a1_0 - 1))) = some (r1, r2) := by rw [if_neg (show ¬ (false = true) by decide)] at H; exact H
      clear H
      have H := H1
      clear H1
      simp only [Option.some.injEq, Prod.mk.injEq] at H
      obtain ⟨rfl, rfl⟩ := H
      have hnb45 := NB662_663.out
      have hnc45 := NB663_662.out
      have hnb46 := NB662_664.out
      have hnc46 := NB664_662.out
      have hcz47_0 := c0_ BK662
      have hcz47_1 := c1_ BK662
      have hfz47_0 := fz_ BK662 0
      have hfz47_1 := fz_ BK662 1
      have hnb48 := NB663_664.out
      have hnc48 := NB664_663.out
      have hcz49_0 := c0_ BK663
      have hcz49_1 := c1_ BK663
      have hfz49_0 := fz_ BK663 0
      have hfz49_1 := fz_ BK663 1
      go_wp2_with (first | ((with_reducible refine gate_callee (f := 92) rfl ?_); refine goesL_ (some 23) rfl rfl Try.func92 (by kernel_rfl) rfl #[.agg #[.int .u64 a0_0, .int .u64 a0_1]] rfl (by (try simp only [List.map_toArray, List.map_cons, List.map_nil]); first | done | rfl) ?_; (with_reducible refine (lockgateref04_alone.calls a0_0 a0_1 false _ A31.out).mono ?_); rintro e w50 ⟨rfl, hb⟩; refine ⟨_, rfl, ?_⟩; replace BK662 := bb_ hb BK662; replace BK663 := bb_ hb BK663; replace BK664 := bb_ hb BK664; replace HB := bl_ hb; (try clear hb); (try clear hb2); (try clear hk); (try clear hi); have hcz51_0 := c0_ BK663; have hcz51_1 := c1_ BK663; have hfz51_0 := fz_ BK663 0; have hfz51_1 := fz_ BK663 1; have hcz52_0 := c0_ BK664; have hcz52_1 := c1_ BK664; have hfz52_0 := fz_ BK664 0; have hfz52_1 := fz_ BK664 1))
      refine bodyPost_ret (results_cell_row rfl _ _ gb664 26 #[.int .u64 0, .int .u64 (IntKind.u64.wrap (a1_0 - 1))] (0, 0) _ rfl (by (with_reducible repeat (first | apply bN_ | apply bD_ | apply bA_)); refine blk_put (cs := #[.int .u64 0, .int .u64 0]) ?_ 1 _ rfl; (with_reducible repeat (first | apply bN_ | apply bD_ | apply bA_)); refine blk_put (cs := #[.int .u64 0, .int .u64 0]) ?_ 0 _ rfl; exact bk_) Try.underlying26 rfl (by kernel_rfl)) rfl ?_
      exact ⟨vv_, bz_⟩

end Go.Proofs.Ytnephcecobocdaa.PA
