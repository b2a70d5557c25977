-- PRINTED by print.py (a twelfth state) out of the translation. Not trusted: Lean checks it.
import Derived.Test.YtnephcecobocdaaWTab
import Derived.Test.YtnephcecobocdaaPA0
import Derived.Test.YtnephcecobocdaaSq
import Derived.Test.YtnephcecobocdaaPA15
namespace Go.Proofs.Ytnephcecobocdaa.PA
open Go.RowKit Go.Proofs.YtnephcecobocdaaW.PrintWords Go.Proofs.YtnephcecobocdaaW.PrintLast Go.Proofs.YtnephcecobocdaaW.PrintMore
attribute [local go_sem] max2_int min2_int max_two min_two max_three min_three max_four min_four   -- for this text's walks alone
set_option linter.unusedVariables false
set_option linter.unusedSimpArgs false

/-! ### lockgateref04_ToT: function 71 -/
def lockgateref04_ToT.l0 : Nat → Int → Int → Int → Option (Int × Int)
 | 0, _, _, _ => none
 | k + 1, x3, x705000, x705001 => (lockgateref04_UAll.f).bind fun bt706 => (if x3 < bt706.2 then (if (IntKind.u64.wrap (x3 + 1)) = 0 then (none) else (if (IntKind.u64.wrap (x705000 - (Int.tmod x705000 (IntKind.u64.wrap (x3 + 1))))) = (IntKind.u64.wrap (x705001 - (Int.tmod x705001 (IntKind.u64.wrap (x3 + 1))))) then ((lockgateref04_UAll.f).bind fun bt708 => (if x3 = bt708.2 then (some (0, x3)) else (some (IntKind.u64.wrap (x705000 - (Int.tmod x705000 (IntKind.u64.wrap (x3 + 1)))), x3)))) else (lockgateref04_ToT.l0 k (IntKind.u64.wrap ((IntKind.u64.wrap (2 * x3)) + 1)) x705000 x705001))) else ((lockgateref04_UAll.f).bind fun bt710 => (if x3 = bt710.2 then (some (0, x3)) else (if (IntKind.u64.wrap (x3 + 1)) = 0 then (none) else (some (IntKind.u64.wrap (x705000 - (Int.tmod x705000 (IntKind.u64.wrap (x3 + 1)))), x3))))))
def lockgateref04_ToT.f (k : Nat) (a0_0 : Int) (a0_1 : Int) : Option (Int × Int) := lockgateref04_ToT.l0 k 0 a0_0 a0_1
theorem lockgateref04_ToT.mono_l : ∀ k, (∀ y0 y1 y2, LeO (lockgateref04_ToT.l0 k y0 y1 y2) (lockgateref04_ToT.l0 (k + 1) y0 y1 y2))
 | 0 => fun _ _ _ r h => by simp [lockgateref04_ToT.l0] at h
 | k + 1 => by
  have ih0 := lockgateref04_ToT.mono_l k
  ·intro y0 y1 y2
   unfold lockgateref04_ToT.l0
   repeat' first
   | (with_reducible exact ih0 _ _ _)
   | (with_reducible exact LeO.refl _)
   | (with_reducible exact LeO.none _)
   | (with_reducible refine LeO.ite ?_ ?_)
   | (with_reducible refine LeO.bind ?_ (fun _ => ?_))
   | exact ih0 _ _ _
   | exact LeO.none _
   | refine LeO.ite ?_ ?_
   | refine LeO.bind ?_ (fun _ => ?_)
theorem lockgateref04_ToT.mono : ∀ a0 a1 k, LeO (lockgateref04_ToT.f k a0 a1) (lockgateref04_ToT.f (k + 1) a0 a1) := by
 intro a0 a1 k
 have ih0 := lockgateref04_ToT.mono_l k
 unfold lockgateref04_ToT.f
 repeat' first
  | (with_reducible exact ih0 _ _ _)
  | (with_reducible exact LeO.refl _)
  | (with_reducible exact LeO.none _)
  | (with_reducible refine LeO.ite ?_ ?_)
  | (with_reducible refine LeO.bind ?_ (fun _ => ?_))
  | exact ih0 _ _ _
  | exact LeO.none _
  | refine LeO.ite ?_ ?_
  | refine LeO.bind ?_ (fun _ => ?_)
def lockgateref04_ToT.T2 : Bool × List (List Nat × List Nat) := (true, [([], []), ([], []), ([1], [1]), ([0, 2], [0, 2]), ([3, 1], [3]), ([4], [4]), ([5, 4], [4, 5]), ([4], [4]), ([7, 4], [4, 7]), ([4], [4]), ([9, 4], [4, 9]), ([8, 10, 4], [4, 8, 10]), ([6, 11, 4], [4, 6, 11]), ([4], [4]), ([13, 4], [4, 13]), ([4], [4]), ([15, 4], [4, 15]), ([4], [4]), ([17, 4], [4, 17]), ([16, 18, 4], [4, 16, 18]), ([14, 19, 4], [4, 14, 19]), ([12, 20, 4], [4, 12, 20]), ([4, 21], [4, 21])])
def lockgateref04_ToT.B2 : List Nat := [0, 0, 2, 7, 15, 31, 63, 31, 159, 31, 543, 1951, 4095, 31, 8223, 31, 32799, 31, 131103, 491551, 1040415, 2097151, 4194303]
theorem lockgateref04_ToT.tab2 : rtab .any (opsOf Try.f71 2) = lockgateref04_ToT.T2 := by kernel_rfl
theorem lockgateref04_ToT.bits2 : waitsOk lockgateref04_ToT.T2.2 lockgateref04_ToT.B2 = true := by kernel_rfl
def lockgateref04_ToT.T6 : Bool × List (List Nat × List Nat) := (true, [([], []), ([0], [0]), ([], []), ([2], [2]), ([], []), ([4], [4]), ([3, 5], [3, 5]), ([1, 6], [1, 6]), ([], []), ([7, 8], [7, 8]), ([9, 0, 1, 2, 3, 4, 5, 6, 7, 8, 9], [9])])
def lockgateref04_ToT.B6 : List Nat := [0, 1, 0, 4, 0, 16, 60, 127, 0, 511, 1023]
theorem lockgateref04_ToT.tab6 : rtab .any (opsOf Try.f71 6) = lockgateref04_ToT.T6 := by kernel_rfl
theorem lockgateref04_ToT.bits6 : waitsOk lockgateref04_ToT.T6.2 lockgateref04_ToT.B6 = true := by kernel_rfl
set_option maxHeartbeats 8000000 in
set_option maxRecDepth 100000 in
theorem lockgateref04_ToT.calls (k : Nat) (a0_0 : Int) (a0_1 : Int) (r1 : Int) (r2 : Int) (w : World) (h : lockgateref04_ToT.f k a0_0 a0_1 = some (r1, r2)) :
 Calls Try.prog 71 #[.agg #[.int .u64 a0_0, .int .u64 a0_1]] w fun e w' => e = .returned (.agg #[.int .u64 r1, .int .u64 r2]) ∧ Below w.heap.size w w' := by
 have hu26 := Try.underlying26
 have hu24 := Try.underlying24
 have HB := Aside0.mk (Below.refl w.heap.size w)
 have H : (lockgateref04_ToT.l0 k 0 a0_0 a0_1) = some (r1, r2) := h
 clear h
 have H' := Aside0.mk H
 clear H
 go_enter Try.func71, Try.ntmps71
 go_wp2_with (first | ((with_reducible refine gate_dst (N := 1) rfl ?_); refine bx_ 1 #[.int .u64 a0_0, .int .u64 a0_1] 26 ?_; intro gb704 hg w2 BK704 hb; have GW704 := bg_ hg; have GE704 := GW704; replace HB := bl_ hb; clear hb hg) | ((with_reducible refine gate_dst (N := 2) rfl ?_); refine bx_ 2 #[.int .u64 0, .int .u64 0] 24 ?_; intro gb705 hg w3 BK705 hb; have GW705 := bg_ hg; have GE705 := GW705; have NB704_705 := bm_ hg BK704; have NB705_704 := bn_ hg BK704; replace BK704 := bb_ hb BK704; replace HB := bl_ hb; clear hb hg))
 (repeat (simp only [fl26_0, fl26_1]; go_wp2_with (first | ((with_reducible refine gate_dst (N := 1) rfl ?_); refine bx_ 1 #[.int .u64 a0_0, .int .u64 a0_1] 26 ?_; intro gb704 hg w2 BK704 hb; have GW704 := bg_ hg; have GE704 := GW704; replace HB := bl_ hb; clear hb hg) | ((with_reducible refine gate_dst (N := 2) rfl ?_); refine bx_ 2 #[.int .u64 0, .int .u64 0] 24 ?_; intro gb705 hg w3 BK705 hb; have GW705 := bg_ hg; have GE705 := GW705; have NB704_705 := bm_ hg BK704; have NB705_704 := bn_ hg BK704; replace BK704 := bb_ hb BK704; replace HB := bl_ hb; clear hb hg))))
 go_loopg [3] k (fun kq v3 w' => ∃ (x3_1 : Int), v3 = .int .u64 x3_1 ∧ Aside0 (lockgateref04_ToT.l0 kq x3_1 a0_0 a0_1 = some (r1, r2)) ∧ Aside0 (kq ≤ k) ∧ Aside0 (w'.heap[gb704]? = some (.cells #[.int .u64 a0_0, .int .u64 a0_1] 26 (0, 0))) ∧ Aside0 (w'.heap[gb705]? = some (.cells #[.int .u64 0, .int .u64 0] 24 (0, 0))) ∧ Aside0 (Below w.heap.size w w'))
 case atStart => exact ⟨(0), (by first | rfl | (simp; done) | (simp [*]; done)), H', ⟨Nat.le_refl _⟩, ⟨by exact bk_⟩, ⟨by exact bk_⟩, ⟨by repeat (first | (with_reducible first | exact HB.out | apply lA_ | apply lN_ | apply lD_ | refine lS_ ?_ GE704.out | refine lS_ ?_ GE705.out) | exact HB.out)⟩⟩
 case round =>
  clear H'
  try clear p2
  obtain ⟨x3_1, rfl, HA, HK1, BK704, BK705, HB⟩ := hrel
  cases gk with
  | zero => exact absurd HA.out (by simp [lockgateref04_ToT.l0])
  | succ k1 =>
   have H := HA.out
   clear HA
   simp only [lockgateref04_ToT.l0] at H
   replace H := Option.bind_eq_some_iff.mp H
   obtain ⟨⟨t706, t707⟩, A40, H⟩ := H
   replace H : (if x3_1 < t707 then (if (IntKind.u64.wrap (x3_1 + 1)) = 0 then (none) else (if (IntKind.u64.wrap (a0_0 - (Int.tmod a0_0 (IntKind.u64.wrap (x3_1 + 1))))) = (IntKind.u64.wrap (a0_1 - (Int.tmod a0_1 (IntKind.u64.wrap (x3_1 + 1))))) then ((lockgateref04_UAll.f).bind fun bt708 => (if x3_1 = bt708.2 then (some (0, x3_1)) else (some (IntKind.u64.wrap (a0_0 - (Int.tmod a0_0 (IntKind.u64.wrap (x3_1 + 1)))), x3_1)))) else (lockgateref04_ToT.l0 k1 (IntKind.u64.wrap ((IntKind.u64.wrap (2 * x3_1)) + 1)) a0_0 a0_1))) else ((lockgateref04_UAll.f).bind fun bt710 => (if x3_1 = bt710.2 then (some (0, x3_1)) else (if (IntKind.u64.wrap (x3_1 + 1)) = 0 then (none) else (some (IntKind.u64.wrap (a0_0 - (Int.tmod a0_0 (IntKind.u64.wrap (x3_1 + 1)))), x3_1)))))) = some (r1, r2) := H
   have A4 := Aside0.mk A40
   clear A40
   by_cases c5 : x3_1 < t707
   ·rw [if_pos c5] at H
    have c5b0 : decide (x3_1 < t707) = true := decide_eq_true c5
    clear c5
    by_cases c6 : (IntKind.u64.wrap (x3_1 + 1)) = 0
    ·rw [if_pos c6] at H
     exact absurd H (by simp)
    ·rw [if_neg c6] at H
     have c6b0 : ((IntKind.u64.wrap (x3_1 + 1)) == 0) = false := beq_eq_false_iff_ne.mpr c6
     have c6b1 : ((IntKind.u64.wrap (x3_1 + 1)) != 0) = true := bne_iff_ne.mpr c6
     by_cases c7 : (IntKind.u64.wrap (a0_0 - (Int.tmod a0_0 (IntKind.u64.wrap (x3_1 + 1))))) = (IntKind.u64.wrap (a0_1 - (Int.tmod a0_1 (IntKind.u64.wrap (x3_1 + 1)))))
     ·rw [if_pos c7] at H
      have c7b0 : ((IntKind.u64.wrap (a0_0 - (Int.tmod a0_0 (IntKind.u64.wrap (x3_1 + 1))))) == (IntKind.u64.wrap (a0_1 - (Int.tmod a0_1 (IntKind.u64.wrap (x3_1 + 1)))))) = true := beq_iff_eq.mpr c7
      have c7b1 : ((IntKind.u64.wrap (a0_0 - (Int.tmod a0_0 (IntKind.u64.wrap (x3_1 + 1))))) != (IntKind.u64.wrap (a0_1 - (Int.tmod a0_1 (IntKind.u64.wrap (x3_1 + 1)))))) = false := bne_eq_false_iff_eq.mpr c7
      clear c7
      replace H := Option.bind_eq_some_iff.mp H
      obtain ⟨⟨t708, t709⟩, A80, H⟩ := H
      replace H : (if x3_1 = t709 then (some (0, x3_1)) else (some (IntKind.u64.wrap (a0_0 - (Int.tmod a0_0 (IntKind.u64.wrap (x3_1 + 1)))), x3_1))) = some (r1, r2) := H
      have A8 := Aside0.mk A80
      clear A80
      by_cases c9 : x3_1 = t709
      ·rw [if_pos c9] at H
       have c9b0 : (x3_1 == t709) = true := beq_iff_eq.mpr c9
       have c9b1 : (x3_1 != t709) = false := bne_eq_false_iff_eq.mpr c9
       clear c9
       simp only [Option.some.injEq, Prod.mk.injEq] at H
       obtain ⟨rfl, rfl⟩ := H
       try go_wp2
       replace BK704 := Aside0.mk (blk_drew BK704.out)
       replace BK705 := Aside0.mk (blk_drew BK705.out)
       replace HB := Aside0.mk (below_drew1 HB.out)
       refine start_ (n := 23) (S := fun w' => w'.cell? ⟨gb704, 0, none⟩ = some (.int .u64 a0_0) ∧ w'.cell? ⟨gb704, 1, none⟩ = some (.int .u64 a0_1)) (ds := []) #[n_,n_,n_,n_,n_,n_,n_,n_,n_,n_,n_,n_,n_,n_,n_,n_,n_,n_,n_,n_,n_,n_,n_] (by kernel_rfl) rfl rfl ⟨c0_ BK704, c1_ BK704⟩ (fun hHeld => ?_); refine with_tabW lockgateref04_ToT.tab2 lockgateref04_ToT.bits2 (fun HT_ HW_ => ?_)
       generalize wr.drew = w10 at BK704 BK705 HB hHeld ⊢
       refine pq_ 0 4 #[y_,n_,n_,n_,n_,n_,n_,n_,n_,n_,n_,n_,n_,n_,n_,n_,n_,n_,n_,n_,n_,n_,n_] ?_
       refine one_ (i := 1) (N := some 5) #[y_,y_,n_,n_,n_,n_,n_,n_,n_,n_,n_,n_,n_,n_,n_,n_,n_,n_,n_,n_,n_,n_,n_] rfl rfl (one_of HT_.out (by kernel_rfl)) (by decide) (fun K hK => ?_)
       refine goes_ Try.func73 (by kernel_rfl) rfl #[] (by rfl) rfl rfl (by (try simp only [List.map_toArray, List.map_cons, List.map_nil]); first | done | rfl) ?_
       with_reducible refine (lockgateref04_UAll.calls  t706 t707 _ A4.out).mono ?_
       rintro e w11 ⟨rfl, hb⟩
       refine ⟨_, rfl, ?_⟩
       replace BK704 := bb_ hb BK704
       replace BK705 := bb_ hb BK705
       replace HB := bl_ hb
       try clear hb
       refine hK.out _ _ ⟨c0_ BK704, c1_ BK704⟩ (fun hHeld => ?_)
       clear hK K
       refine norm_ (a' := ?_) ?_ ?_
       rotate_left
       ·show Act.put _ (some 5) _ = _
        simp only [Act.put, s1_, s2_, s3_, i64_w, i32_w]
        rfl
       refine pq_ 2 6 #[y_,y_,y_,n_,n_,n_,n_,n_,n_,n_,n_,n_,n_,n_,n_,n_,n_,n_,n_,n_,n_,n_,n_] ?_
       refine pq_ 3 7 #[y_,y_,y_,y_,n_,n_,n_,n_,n_,n_,n_,n_,n_,n_,n_,n_,n_,n_,n_,n_,n_,n_,n_] ?_
       refine pq_ 4 8 #[y_,y_,y_,y_,y_,n_,n_,n_,n_,n_,n_,n_,n_,n_,n_,n_,n_,n_,n_,n_,n_,n_,n_] ?_
       refine pq_ 5 9 #[y_,y_,y_,y_,y_,y_,n_,n_,n_,n_,n_,n_,n_,n_,n_,n_,n_,n_,n_,n_,n_,n_,n_] ?_
       refine pq_ 7 11 #[y_,y_,y_,y_,y_,y_,n_,y_,n_,n_,n_,n_,n_,n_,n_,n_,n_,n_,n_,n_,n_,n_,n_] ?_
       refine pq_ 9 13 #[y_,y_,y_,y_,y_,y_,n_,y_,n_,y_,n_,n_,n_,n_,n_,n_,n_,n_,n_,n_,n_,n_,n_] ?_
       refine pq_ 10 14 #[y_,y_,y_,y_,y_,y_,n_,y_,n_,y_,y_,n_,n_,n_,n_,n_,n_,n_,n_,n_,n_,n_,n_] ?_
       refine pq_ 13 17 #[y_,y_,y_,y_,y_,y_,n_,y_,n_,y_,y_,n_,n_,y_,n_,n_,n_,n_,n_,n_,n_,n_,n_] ?_
       refine pq_ 15 19 #[y_,y_,y_,y_,y_,y_,n_,y_,n_,y_,y_,n_,n_,y_,n_,y_,n_,n_,n_,n_,n_,n_,n_] ?_
       refine pq_ 17 21 #[y_,y_,y_,y_,y_,y_,n_,y_,n_,y_,y_,n_,n_,y_,n_,y_,n_,y_,n_,n_,n_,n_,n_] ?_
       refine pq_ 18 22 #[y_,y_,y_,y_,y_,y_,n_,y_,n_,y_,y_,n_,n_,y_,n_,y_,n_,y_,y_,n_,n_,n_,n_] ?_
       refine tq0_ 6 10 #[y_,y_,y_,y_,y_,y_,y_,y_,n_,y_,y_,n_,n_,y_,n_,y_,n_,y_,y_,n_,n_,n_,n_] hHeld ?_
       refine tq0_ 8 12 #[y_,y_,y_,y_,y_,y_,y_,y_,y_,y_,y_,n_,n_,y_,n_,y_,n_,y_,y_,n_,n_,n_,n_] hHeld ?_
       refine pq_ 11 15 #[y_,y_,y_,y_,y_,y_,y_,y_,y_,y_,y_,y_,n_,y_,n_,y_,n_,y_,y_,n_,n_,n_,n_] ?_
       refine pq_ 12 16 #[y_,y_,y_,y_,y_,y_,y_,y_,y_,y_,y_,y_,y_,y_,n_,y_,n_,y_,y_,n_,n_,n_,n_] ?_
       refine tq0_ 14 18 #[y_,y_,y_,y_,y_,y_,y_,y_,y_,y_,y_,y_,y_,y_,y_,y_,n_,y_,y_,n_,n_,n_,n_] hHeld ?_
       refine tq0_ 16 20 #[y_,y_,y_,y_,y_,y_,y_,y_,y_,y_,y_,y_,y_,y_,y_,y_,y_,y_,y_,n_,n_,n_,n_] hHeld ?_
       refine pq_ 19 23 #[y_,y_,y_,y_,y_,y_,y_,y_,y_,y_,y_,y_,y_,y_,y_,y_,y_,y_,y_,y_,n_,n_,n_] ?_
       refine pq_ 20 24 #[y_,y_,y_,y_,y_,y_,y_,y_,y_,y_,y_,y_,y_,y_,y_,y_,y_,y_,y_,y_,y_,n_,n_] ?_
       refine pq_ 21 25 #[y_,y_,y_,y_,y_,y_,y_,y_,y_,y_,y_,y_,y_,y_,y_,y_,y_,y_,y_,y_,y_,y_,n_] ?_
       refine pq_ 22 26 #[y_,y_,y_,y_,y_,y_,y_,y_,y_,y_,y_,y_,y_,y_,y_,y_,y_,y_,y_,y_,y_,y_,y_] ?_
       refine done_ (done_of HT_.out (by kernel_rfl)) ?_
       try go_wp2_with (first | ((with_reducible refine gate_callee (f := 73) rfl ?_); refine goesL_ (some 31) rfl rfl Try.func73 (by kernel_rfl) rfl #[] rfl (by (try simp only [List.map_toArray, List.map_cons, List.map_nil]); first | done | rfl) ?_; (with_reducible refine (lockgateref04_UAll.calls  t708 t709 _ A8.out).mono ?_); rintro e w12 ⟨rfl, hb⟩; refine ⟨_, rfl, ?_⟩; replace BK704 := bb_ hb BK704; replace BK705 := bb_ hb BK705; replace HB := bl_ hb; (try clear hb); (try clear hb2); (try clear hk); (try clear hi); have hnb13 := NB705_704.out; have hnc13 := NB704_705.out; have hcz14_0 := c0_ BK705; have hcz14_1 := c1_ BK705; have hfz14_0 := fz_ BK705 0; have hfz14_1 := fz_ BK705 1))
       (repeat (simp only [fl26_0, fl26_1]; go_wp2_with (first | ((with_reducible refine gate_callee (f := 73) rfl ?_); refine goesL_ (some 31) rfl rfl Try.func73 (by kernel_rfl) rfl #[] rfl (by (try simp only [List.map_toArray, List.map_cons, List.map_nil]); first | done | rfl) ?_; (with_reducible refine (lockgateref04_UAll.calls  t708 t709 _ A8.out).mono ?_); rintro e w12 ⟨rfl, hb⟩; refine ⟨_, rfl, ?_⟩; replace BK704 := bb_ hb BK704; replace BK705 := bb_ hb BK705; replace HB := bl_ hb; (try clear hb); (try clear hb2); (try clear hk); (try clear hi); have hnb13 := NB705_704.out; have hnc13 := NB704_705.out; have hcz14_0 := c0_ BK705; have hcz14_1 := c1_ BK705; have hfz14_0 := fz_ BK705 0; have hfz14_1 := fz_ BK705 1))))
       refine bodyPost_ret (results_cell_row rfl _ _ gb705 24 #[.int .u64 0, .int .u64 x3_1] (0, 0) _ rfl (by (with_reducible repeat (first | apply bN_ | apply bD_ | apply bA_)); refine blk_put (cs := #[.int .u64 0, .int .u64 0]) ?_ 1 _ rfl; (with_reducible repeat (first | apply bN_ | apply bD_ | apply bA_)); refine blk_put (cs := #[.int .u64 0, .int .u64 0]) ?_ 0 _ rfl; exact bk_) Try.underlying24 rfl (by kernel_rfl)) rfl ?_
       exact ⟨by first | rfl | (exfalso; simp only [decide_eq_true_eq, decide_eq_false_iff_not] at *; omega) | (simp [errW_none, errW_some] <;> rfl) | (simp [*, errW_none, errW_some] <;> rfl), bz_⟩
      ·rw [if_neg c9] at H
       have c9b0 : (x3_1 == t709) = false := beq_eq_false_iff_ne.mpr c9
       have c9b1 : (x3_1 != t709) = true := bne_iff_ne.mpr c9
       simp only [Option.some.injEq, Prod.mk.injEq] at H
       obtain ⟨rfl, rfl⟩ := H
       try go_wp2
       replace BK704 := Aside0.mk (blk_drew BK704.out)
       replace BK705 := Aside0.mk (blk_drew BK705.out)
       replace HB := Aside0.mk (below_drew1 HB.out)
       refine start_ (n := 23) (S := fun w' => w'.cell? ⟨gb704, 0, none⟩ = some (.int .u64 a0_0) ∧ w'.cell? ⟨gb704, 1, none⟩ = some (.int .u64 a0_1)) (ds := []) #[n_,n_,n_,n_,n_,n_,n_,n_,n_,n_,n_,n_,n_,n_,n_,n_,n_,n_,n_,n_,n_,n_,n_] (by kernel_rfl) rfl rfl ⟨c0_ BK704, c1_ BK704⟩ (fun hHeld => ?_); refine with_tabW lockgateref04_ToT.tab2 lockgateref04_ToT.bits2 (fun HT_ HW_ => ?_)
       generalize wr.drew = w15 at BK704 BK705 HB hHeld ⊢
       refine pq_ 0 4 #[y_,n_,n_,n_,n_,n_,n_,n_,n_,n_,n_,n_,n_,n_,n_,n_,n_,n_,n_,n_,n_,n_,n_] ?_
       refine one_ (i := 1) (N := some 5) #[y_,y_,n_,n_,n_,n_,n_,n_,n_,n_,n_,n_,n_,n_,n_,n_,n_,n_,n_,n_,n_,n_,n_] rfl rfl (one_of HT_.out (by kernel_rfl)) (by decide) (fun K hK => ?_)
       refine goes_ Try.func73 (by kernel_rfl) rfl #[] (by rfl) rfl rfl (by (try simp only [List.map_toArray, List.map_cons, List.map_nil]); first | done | rfl) ?_
       with_reducible refine (lockgateref04_UAll.calls  t706 t707 _ A4.out).mono ?_
       rintro e w16 ⟨rfl, hb⟩
       refine ⟨_, rfl, ?_⟩
       replace BK704 := bb_ hb BK704
       replace BK705 := bb_ hb BK705
       replace HB := bl_ hb
       try clear hb
       refine hK.out _ _ ⟨c0_ BK704, c1_ BK704⟩ (fun hHeld => ?_)
       clear hK K
       refine norm_ (a' := ?_) ?_ ?_
       rotate_left
       ·show Act.put _ (some 5) _ = _
        simp only [Act.put, s1_, s2_, s3_, i64_w, i32_w]
        rfl
       refine pq_ 2 6 #[y_,y_,y_,n_,n_,n_,n_,n_,n_,n_,n_,n_,n_,n_,n_,n_,n_,n_,n_,n_,n_,n_,n_] ?_
       refine pq_ 3 7 #[y_,y_,y_,y_,n_,n_,n_,n_,n_,n_,n_,n_,n_,n_,n_,n_,n_,n_,n_,n_,n_,n_,n_] ?_
       refine pq_ 4 8 #[y_,y_,y_,y_,y_,n_,n_,n_,n_,n_,n_,n_,n_,n_,n_,n_,n_,n_,n_,n_,n_,n_,n_] ?_
       refine pq_ 5 9 #[y_,y_,y_,y_,y_,y_,n_,n_,n_,n_,n_,n_,n_,n_,n_,n_,n_,n_,n_,n_,n_,n_,n_] ?_
       refine pq_ 7 11 #[y_,y_,y_,y_,y_,y_,n_,y_,n_,n_,n_,n_,n_,n_,n_,n_,n_,n_,n_,n_,n_,n_,n_] ?_
       refine pq_ 9 13 #[y_,y_,y_,y_,y_,y_,n_,y_,n_,y_,n_,n_,n_,n_,n_,n_,n_,n_,n_,n_,n_,n_,n_] ?_
       refine pq_ 10 14 #[y_,y_,y_,y_,y_,y_,n_,y_,n_,y_,y_,n_,n_,n_,n_,n_,n_,n_,n_,n_,n_,n_,n_] ?_
       refine pq_ 13 17 #[y_,y_,y_,y_,y_,y_,n_,y_,n_,y_,y_,n_,n_,y_,n_,n_,n_,n_,n_,n_,n_,n_,n_] ?_
       refine pq_ 15 19 #[y_,y_,y_,y_,y_,y_,n_,y_,n_,y_,y_,n_,n_,y_,n_,y_,n_,n_,n_,n_,n_,n_,n_] ?_
       refine pq_ 17 21 #[y_,y_,y_,y_,y_,y_,n_,y_,n_,y_,y_,n_,n_,y_,n_,y_,n_,y_,n_,n_,n_,n_,n_] ?_
       refine pq_ 18 22 #[y_,y_,y_,y_,y_,y_,n_,y_,n_,y_,y_,n_,n_,y_,n_,y_,n_,y_,y_,n_,n_,n_,n_] ?_
       refine tq0_ 6 10 #[y_,y_,y_,y_,y_,y_,y_,y_,n_,y_,y_,n_,n_,y_,n_,y_,n_,y_,y_,n_,n_,n_,n_] hHeld ?_
       refine tq0_ 8 12 #[y_,y_,y_,y_,y_,y_,y_,y_,y_,y_,y_,n_,n_,y_,n_,y_,n_,y_,y_,n_,n_,n_,n_] hHeld ?_
       refine pq_ 11 15 #[y_,y_,y_,y_,y_,y_,y_,y_,y_,y_,y_,y_,n_,y_,n_,y_,n_,y_,y_,n_,n_,n_,n_] ?_
       refine pq_ 12 16 #[y_,y_,y_,y_,y_,y_,y_,y_,y_,y_,y_,y_,y_,y_,n_,y_,n_,y_,y_,n_,n_,n_,n_] ?_
       refine tq0_ 14 18 #[y_,y_,y_,y_,y_,y_,y_,y_,y_,y_,y_,y_,y_,y_,y_,y_,n_,y_,y_,n_,n_,n_,n_] hHeld ?_
       refine tq0_ 16 20 #[y_,y_,y_,y_,y_,y_,y_,y_,y_,y_,y_,y_,y_,y_,y_,y_,y_,y_,y_,n_,n_,n_,n_] hHeld ?_
       refine pq_ 19 23 #[y_,y_,y_,y_,y_,y_,y_,y_,y_,y_,y_,y_,y_,y_,y_,y_,y_,y_,y_,y_,n_,n_,n_] ?_
       refine pq_ 20 24 #[y_,y_,y_,y_,y_,y_,y_,y_,y_,y_,y_,y_,y_,y_,y_,y_,y_,y_,y_,y_,y_,n_,n_] ?_
       refine pq_ 21 25 #[y_,y_,y_,y_,y_,y_,y_,y_,y_,y_,y_,y_,y_,y_,y_,y_,y_,y_,y_,y_,y_,y_,n_] ?_
       refine pq_ 22 26 #[y_,y_,y_,y_,y_,y_,y_,y_,y_,y_,y_,y_,y_,y_,y_,y_,y_,y_,y_,y_,y_,y_,y_] ?_
       refine done_ (done_of HT_.out (by kernel_rfl)) ?_
       try go_wp2_with (first | ((with_reducible refine gate_callee (f := 73) rfl ?_); refine goesL_ (some 31) rfl rfl Try.func73 (by kernel_rfl) rfl #[] rfl (by (try simp only [List.map_toArray, List.map_cons, List.map_nil]); first | done | rfl) ?_; (with_reducible refine (lockgateref04_UAll.calls  t708 t709 _ A8.out).mono ?_); rintro e w17 ⟨rfl, hb⟩; refine ⟨_, rfl, ?_⟩; replace BK704 := bb_ hb BK704; replace BK705 := bb_ hb BK705; replace HB := bl_ hb; (try clear hb); (try clear hb2); (try clear hk); (try clear hi)))
       (repeat (simp only [fl26_0, fl26_1]; go_wp2_with (first | ((with_reducible refine gate_callee (f := 73) rfl ?_); refine goesL_ (some 31) rfl rfl Try.func73 (by kernel_rfl) rfl #[] rfl (by (try simp only [List.map_toArray, List.map_cons, List.map_nil]); first | done | rfl) ?_; (with_reducible refine (lockgateref04_UAll.calls  t708 t709 _ A8.out).mono ?_); rintro e w17 ⟨rfl, hb⟩; refine ⟨_, rfl, ?_⟩; replace BK704 := bb_ hb BK704; replace BK705 := bb_ hb BK705; replace HB := bl_ hb; (try clear hb); (try clear hb2); (try clear hk); (try clear hi)))))
       replace BK704 := Aside0.mk (blk_drew BK704.out)
       replace BK705 := Aside0.mk (blk_drew BK705.out)
       replace HB := Aside0.mk (below_drew1 HB.out)
       refine start_ (n := 11) (S := fun w' => w'.cell? ⟨gb704, 0, none⟩ = some (.int .u64 a0_0) ∧ w'.cell? ⟨gb704, 1, none⟩ = some (.int .u64 a0_1)) (ds := []) #[n_,n_,n_,n_,n_,n_,n_,n_,n_,n_,n_] (by kernel_rfl) rfl rfl ⟨c0_ BK704, c1_ BK704⟩ (fun hHeld => ?_); refine with_tabW lockgateref04_ToT.tab6 lockgateref04_ToT.bits6 (fun HT_ HW_ => ?_)
       generalize w17.drew = w18 at BK704 BK705 HB hHeld ⊢
       refine pq_ 0 36 #[y_,n_,n_,n_,n_,n_,n_,n_,n_,n_,n_] ?_
       refine pq_ 2 38 #[y_,n_,y_,n_,n_,n_,n_,n_,n_,n_,n_] ?_
       refine pq_ 4 40 #[y_,n_,y_,n_,y_,n_,n_,n_,n_,n_,n_] ?_
       refine pq_ 5 41 #[y_,n_,y_,n_,y_,y_,n_,n_,n_,n_,n_] ?_
       refine pq_ 8 44 #[y_,n_,y_,n_,y_,y_,n_,n_,y_,n_,n_] ?_
       refine tq0_ 1 37 #[y_,y_,y_,n_,y_,y_,n_,n_,y_,n_,n_] hHeld ?_
       refine tq0_ 3 39 #[y_,y_,y_,y_,y_,y_,n_,n_,y_,n_,n_] hHeld ?_
       refine pq_ 6 42 #[y_,y_,y_,y_,y_,y_,y_,n_,y_,n_,n_] ?_
       refine pq_ 7 43 #[y_,y_,y_,y_,y_,y_,y_,y_,y_,n_,n_] ?_
       refine pq_ 9 45 #[y_,y_,y_,y_,y_,y_,y_,y_,y_,y_,n_] ?_
       refine one_ (i := 10) (N := none) #[y_,y_,y_,y_,y_,y_,y_,y_,y_,y_,y_] rfl rfl (one_of HT_.out (by kernel_rfl)) (by decide) (fun K hK => ?_)
       have hs19 := c0_ BK705
       have hfs19 := fz_ BK705 0
       have hns19_0 := NB704_705.out
       have hms19_0 := NB705_704.out
       have hs20 := c1_ BK705
       have hfs20 := fz_ BK705 1
       have hns20_0 := NB704_705.out
       have hms20_0 := NB705_704.out
       refine skip_ (w1 := ?_) (by rfl) rfl ?_ ?_
       rotate_left
       ·go_simp
        rfl
       refine hK.out _ _ ⟨((cell_far (p := ⟨gb705, _, none⟩) NB704_705.out _).trans (((cell_far (p := ⟨gb705, _, none⟩) NB704_705.out _).trans (hHeld.1)))), ((cell_far (p := ⟨gb705, _, none⟩) NB704_705.out _).trans (((cell_far (p := ⟨gb705, _, none⟩) NB704_705.out _).trans (hHeld.2))))⟩ (fun hHeld => ?_)
       clear hK K
       refine done_ (done_of HT_.out (by kernel_rfl)) ?_
       try go_wp2
       refine bodyPost_ret (results_cell_row rfl _ _ gb705 24 #[.int .u64 (IntKind.u64.wrap (a0_0 - (Int.tmod a0_0 (IntKind.u64.wrap (x3_1 + 1))))), .int .u64 x3_1] (0, 0) _ rfl (by (with_reducible repeat (first | apply bN_ | apply bD_ | apply bA_)); refine blk_put (cs := #[.int .u64 (IntKind.u64.wrap (a0_0 - (Int.tmod a0_0 (IntKind.u64.wrap (x3_1 + 1))))), .int .u64 0]) ?_ 1 _ rfl; (with_reducible repeat (first | apply bN_ | apply bD_ | apply bA_)); refine blk_put (cs := #[.int .u64 0, .int .u64 0]) ?_ 0 _ rfl; exact bk_) Try.underlying24 rfl (by kernel_rfl)) rfl ?_
       exact ⟨by first | rfl | (exfalso; simp only [decide_eq_true_eq, decide_eq_false_iff_not] at *; omega) | (simp [errW_none, errW_some] <;> rfl) | (simp [*, errW_none, errW_some] <;> rfl), bz_⟩
     ·rw [if_neg c7] at H
      have c7b0 : ((IntKind.u64.wrap (a0_0 - (Int.tmod a0_0 (IntKind.u64.wrap (x3_1 + 1))))) == (IntKind.u64.wrap (a0_1 - (Int.tmod a0_1 (IntKind.u64.wrap (x3_1 + 1)))))) = false := beq_eq_false_iff_ne.mpr c7
      have c7b1 : ((IntKind.u64.wrap (a0_0 - (Int.tmod a0_0 (IntKind.u64.wrap (x3_1 + 1))))) != (IntKind.u64.wrap (a0_1 - (Int.tmod a0_1 (IntKind.u64.wrap (x3_1 + 1)))))) = true := bne_iff_ne.mpr c7
      have H' := Aside0.mk H
      clear H
      try go_wp2
      replace BK704 := Aside0.mk (blk_drew BK704.out)
      replace BK705 := Aside0.mk (blk_drew BK705.out)
      replace HB := Aside0.mk (below_drew1 HB.out)
      refine start_ (n := 23) (S := fun w' => w'.cell? ⟨gb704, 0, none⟩ = some (.int .u64 a0_0) ∧ w'.cell? ⟨gb704, 1, none⟩ = some (.int .u64 a0_1)) (ds := []) #[n_,n_,n_,n_,n_,n_,n_,n_,n_,n_,n_,n_,n_,n_,n_,n_,n_,n_,n_,n_,n_,n_,n_] (by kernel_rfl) rfl rfl ⟨c0_ BK704, c1_ BK704⟩ (fun hHeld => ?_); refine with_tabW lockgateref04_ToT.tab2 lockgateref04_ToT.bits2 (fun HT_ HW_ => ?_)
      generalize wr.drew = w21 at BK704 BK705 HB hHeld ⊢
      refine pq_ 0 4 #[y_,n_,n_,n_,n_,n_,n_,n_,n_,n_,n_,n_,n_,n_,n_,n_,n_,n_,n_,n_,n_,n_,n_] ?_
      refine one_ (i := 1) (N := some 5) #[y_,y_,n_,n_,n_,n_,n_,n_,n_,n_,n_,n_,n_,n_,n_,n_,n_,n_,n_,n_,n_,n_,n_] rfl rfl (one_of HT_.out (by kernel_rfl)) (by decide) (fun K hK => ?_)
      refine goes_ Try.func73 (by kernel_rfl) rfl #[] (by rfl) rfl rfl (by (try simp only [List.map_toArray, List.map_cons, List.map_nil]); first | done | rfl) ?_
      with_reducible refine (lockgateref04_UAll.calls  t706 t707 _ A4.out).mono ?_
      rintro e w22 ⟨rfl, hb⟩
      refine ⟨_, rfl, ?_⟩
      replace BK704 := bb_ hb BK704
      replace BK705 := bb_ hb BK705
      replace HB := bl_ hb
      try clear hb
      refine hK.out _ _ ⟨c0_ BK704, c1_ BK704⟩ (fun hHeld => ?_)
      clear hK K
      refine norm_ (a' := ?_) ?_ ?_
      rotate_left
      ·show Act.put _ (some 5) _ = _
       simp only [Act.put, s1_, s2_, s3_, i64_w, i32_w]
       rfl
      refine pq_ 2 6 #[y_,y_,y_,n_,n_,n_,n_,n_,n_,n_,n_,n_,n_,n_,n_,n_,n_,n_,n_,n_,n_,n_,n_] ?_
      refine pq_ 3 7 #[y_,y_,y_,y_,n_,n_,n_,n_,n_,n_,n_,n_,n_,n_,n_,n_,n_,n_,n_,n_,n_,n_,n_] ?_
      refine pq_ 4 8 #[y_,y_,y_,y_,y_,n_,n_,n_,n_,n_,n_,n_,n_,n_,n_,n_,n_,n_,n_,n_,n_,n_,n_] ?_
      refine pq_ 5 9 #[y_,y_,y_,y_,y_,y_,n_,n_,n_,n_,n_,n_,n_,n_,n_,n_,n_,n_,n_,n_,n_,n_,n_] ?_
      refine pq_ 7 11 #[y_,y_,y_,y_,y_,y_,n_,y_,n_,n_,n_,n_,n_,n_,n_,n_,n_,n_,n_,n_,n_,n_,n_] ?_
      refine pq_ 9 13 #[y_,y_,y_,y_,y_,y_,n_,y_,n_,y_,n_,n_,n_,n_,n_,n_,n_,n_,n_,n_,n_,n_,n_] ?_
      refine pq_ 10 14 #[y_,y_,y_,y_,y_,y_,n_,y_,n_,y_,y_,n_,n_,n_,n_,n_,n_,n_,n_,n_,n_,n_,n_] ?_
      refine pq_ 13 17 #[y_,y_,y_,y_,y_,y_,n_,y_,n_,y_,y_,n_,n_,y_,n_,n_,n_,n_,n_,n_,n_,n_,n_] ?_
      refine pq_ 15 19 #[y_,y_,y_,y_,y_,y_,n_,y_,n_,y_,y_,n_,n_,y_,n_,y_,n_,n_,n_,n_,n_,n_,n_] ?_
      refine pq_ 17 21 #[y_,y_,y_,y_,y_,y_,n_,y_,n_,y_,y_,n_,n_,y_,n_,y_,n_,y_,n_,n_,n_,n_,n_] ?_
      refine pq_ 18 22 #[y_,y_,y_,y_,y_,y_,n_,y_,n_,y_,y_,n_,n_,y_,n_,y_,n_,y_,y_,n_,n_,n_,n_] ?_
      refine tq0_ 6 10 #[y_,y_,y_,y_,y_,y_,y_,y_,n_,y_,y_,n_,n_,y_,n_,y_,n_,y_,y_,n_,n_,n_,n_] hHeld ?_
      refine tq0_ 8 12 #[y_,y_,y_,y_,y_,y_,y_,y_,y_,y_,y_,n_,n_,y_,n_,y_,n_,y_,y_,n_,n_,n_,n_] hHeld ?_
      refine pq_ 11 15 #[y_,y_,y_,y_,y_,y_,y_,y_,y_,y_,y_,y_,n_,y_,n_,y_,n_,y_,y_,n_,n_,n_,n_] ?_
      refine pq_ 12 16 #[y_,y_,y_,y_,y_,y_,y_,y_,y_,y_,y_,y_,y_,y_,n_,y_,n_,y_,y_,n_,n_,n_,n_] ?_
      refine tq0_ 14 18 #[y_,y_,y_,y_,y_,y_,y_,y_,y_,y_,y_,y_,y_,y_,y_,y_,n_,y_,y_,n_,n_,n_,n_] hHeld ?_
      refine tq0_ 16 20 #[y_,y_,y_,y_,y_,y_,y_,y_,y_,y_,y_,y_,y_,y_,y_,y_,y_,y_,y_,n_,n_,n_,n_] hHeld ?_
      refine pq_ 19 23 #[y_,y_,y_,y_,y_,y_,y_,y_,y_,y_,y_,y_,y_,y_,y_,y_,y_,y_,y_,y_,n_,n_,n_] ?_
      refine pq_ 20 24 #[y_,y_,y_,y_,y_,y_,y_,y_,y_,y_,y_,y_,y_,y_,y_,y_,y_,y_,y_,y_,y_,n_,n_] ?_
      refine pq_ 21 25 #[y_,y_,y_,y_,y_,y_,y_,y_,y_,y_,y_,y_,y_,y_,y_,y_,y_,y_,y_,y_,y_,y_,n_] ?_
      refine pq_ 22 26 #[y_,y_,y_,y_,y_,y_,y_,y_,y_,y_,y_,y_,y_,y_,y_,y_,y_,y_,y_,y_,y_,y_,y_] ?_
      refine done_ (done_of HT_.out (by kernel_rfl)) ?_
      try go_wp2
      go_roundg k1
      case measure => have := HK1.out; omega
      case rel => exact ⟨(IntKind.u64.wrap ((IntKind.u64.wrap (2 * x3_1)) + 1)), (by first | rfl | (simp; done) | (simp [*]; done)), H', ⟨by have := HK1.out; omega⟩, ⟨by exact bk_⟩, ⟨by exact bk_⟩, ⟨by repeat (first | (with_reducible first | exact HB.out | apply lA_ | apply lN_ | apply lD_ | refine lS_ ?_ GE704.out | refine lS_ ?_ GE705.out) | exact HB.out)⟩⟩
   ·rw [if_neg c5] at H
    have c5b0 : decide (x3_1 < t707) = false := decide_eq_false c5
    clear c5
    replace H := Option.bind_eq_some_iff.mp H
    obtain ⟨⟨t710, t711⟩, A230, H⟩ := H
    replace H : (if x3_1 = t711 then (some (0, x3_1)) else (if (IntKind.u64.wrap (x3_1 + 1)) = 0 then (none) else (some (IntKind.u64.wrap (a0_0 - (Int.tmod a0_0 (IntKind.u64.wrap (x3_1 + 1)))), x3_1)))) = some (r1, r2) := H
    have A23 := Aside0.mk A230
    clear A230
    by_cases c24 : x3_1 = t711
    ·rw [if_pos c24] at H
     have c24b0 : (x3_1 == t711) = true := beq_iff_eq.mpr c24
     have c24b1 : (x3_1 != t711) = false := bne_eq_false_iff_eq.mpr c24
     clear c24
     simp only [Option.some.injEq, Prod.mk.injEq] at H
     obtain ⟨rfl, rfl⟩ := H
     try go_wp2
     replace BK704 := Aside0.mk (blk_drew BK704.out)
     replace BK705 := Aside0.mk (blk_drew BK705.out)
     replace HB := Aside0.mk (below_drew1 HB.out)
     refine start_ (n := 23) (S := fun w' => True) (ds := []) #[n_,n_,n_,n_,n_,n_,n_,n_,n_,n_,n_,n_,n_,n_,n_,n_,n_,n_,n_,n_,n_,n_,n_] (by kernel_rfl) rfl rfl trivial (fun hHeld => ?_); refine with_tabW lockgateref04_ToT.tab2 lockgateref04_ToT.bits2 (fun HT_ HW_ => ?_)
     generalize wr.drew = w25 at BK704 BK705 HB hHeld ⊢
     refine pq_ 0 4 #[y_,n_,n_,n_,n_,n_,n_,n_,n_,n_,n_,n_,n_,n_,n_,n_,n_,n_,n_,n_,n_,n_,n_] ?_
     refine one_ (i := 1) (N := some 5) #[y_,y_,n_,n_,n_,n_,n_,n_,n_,n_,n_,n_,n_,n_,n_,n_,n_,n_,n_,n_,n_,n_,n_] rfl rfl (one_of HT_.out (by kernel_rfl)) (by decide) (fun K hK => ?_)
     refine goes_ Try.func73 (by kernel_rfl) rfl #[] (by rfl) rfl rfl (by (try simp only [List.map_toArray, List.map_cons, List.map_nil]); first | done | rfl) ?_
     with_reducible refine (lockgateref04_UAll.calls  t706 t707 _ A4.out).mono ?_
     rintro e w26 ⟨rfl, hb⟩
     refine ⟨_, rfl, ?_⟩
     replace BK704 := bb_ hb BK704
     replace BK705 := bb_ hb BK705
     replace HB := bl_ hb
     try clear hb
     refine hK.out _ _ trivial (fun hHeld => ?_)
     clear hK K
     refine norm_ (a' := ?_) ?_ ?_
     rotate_left
     ·show Act.put _ (some 5) _ = _
      simp only [Act.put, s1_, s2_, s3_, i64_w, i32_w]
      rfl
     refine pq_ 2 6 #[y_,y_,y_,n_,n_,n_,n_,n_,n_,n_,n_,n_,n_,n_,n_,n_,n_,n_,n_,n_,n_,n_,n_] ?_
     refine pq_ 3 7 #[y_,y_,y_,y_,n_,n_,n_,n_,n_,n_,n_,n_,n_,n_,n_,n_,n_,n_,n_,n_,n_,n_,n_] ?_
     refine pq_ 4 8 #[y_,y_,y_,y_,y_,n_,n_,n_,n_,n_,n_,n_,n_,n_,n_,n_,n_,n_,n_,n_,n_,n_,n_] ?_
     refine pu_ 5 9 #[y_,y_,y_,y_,y_,y_,n_,n_,n_,n_,n_,n_,n_,n_,n_,n_,n_,n_,n_,n_,n_,n_,n_] ?_
     refine pu_ 6 10 #[y_,y_,y_,y_,y_,y_,y_,n_,n_,n_,n_,n_,n_,n_,n_,n_,n_,n_,n_,n_,n_,n_,n_] ?_
     refine pu_ 7 11 #[y_,y_,y_,y_,y_,y_,y_,y_,n_,n_,n_,n_,n_,n_,n_,n_,n_,n_,n_,n_,n_,n_,n_] ?_
     refine pu_ 8 12 #[y_,y_,y_,y_,y_,y_,y_,y_,y_,n_,n_,n_,n_,n_,n_,n_,n_,n_,n_,n_,n_,n_,n_] ?_
     refine pu_ 9 13 #[y_,y_,y_,y_,y_,y_,y_,y_,y_,y_,n_,n_,n_,n_,n_,n_,n_,n_,n_,n_,n_,n_,n_] ?_
     refine pu_ 10 14 #[y_,y_,y_,y_,y_,y_,y_,y_,y_,y_,y_,n_,n_,n_,n_,n_,n_,n_,n_,n_,n_,n_,n_] ?_
     refine pu_ 11 15 #[y_,y_,y_,y_,y_,y_,y_,y_,y_,y_,y_,y_,n_,n_,n_,n_,n_,n_,n_,n_,n_,n_,n_] ?_
     refine pu_ 12 16 #[y_,y_,y_,y_,y_,y_,y_,y_,y_,y_,y_,y_,y_,n_,n_,n_,n_,n_,n_,n_,n_,n_,n_] ?_
     refine pu_ 13 17 #[y_,y_,y_,y_,y_,y_,y_,y_,y_,y_,y_,y_,y_,y_,n_,n_,n_,n_,n_,n_,n_,n_,n_] ?_
     refine pu_ 14 18 #[y_,y_,y_,y_,y_,y_,y_,y_,y_,y_,y_,y_,y_,y_,y_,n_,n_,n_,n_,n_,n_,n_,n_] ?_
     refine pu_ 15 19 #[y_,y_,y_,y_,y_,y_,y_,y_,y_,y_,y_,y_,y_,y_,y_,y_,n_,n_,n_,n_,n_,n_,n_] ?_
     refine pu_ 16 20 #[y_,y_,y_,y_,y_,y_,y_,y_,y_,y_,y_,y_,y_,y_,y_,y_,y_,n_,n_,n_,n_,n_,n_] ?_
     refine pu_ 17 21 #[y_,y_,y_,y_,y_,y_,y_,y_,y_,y_,y_,y_,y_,y_,y_,y_,y_,y_,n_,n_,n_,n_,n_] ?_
     refine pu_ 18 22 #[y_,y_,y_,y_,y_,y_,y_,y_,y_,y_,y_,y_,y_,y_,y_,y_,y_,y_,y_,n_,n_,n_,n_] ?_
     refine pu_ 19 23 #[y_,y_,y_,y_,y_,y_,y_,y_,y_,y_,y_,y_,y_,y_,y_,y_,y_,y_,y_,y_,n_,n_,n_] ?_
     refine pu_ 20 24 #[y_,y_,y_,y_,y_,y_,y_,y_,y_,y_,y_,y_,y_,y_,y_,y_,y_,y_,y_,y_,y_,n_,n_] ?_
     refine pu_ 21 25 #[y_,y_,y_,y_,y_,y_,y_,y_,y_,y_,y_,y_,y_,y_,y_,y_,y_,y_,y_,y_,y_,y_,n_] ?_
     refine pq_ 22 26 #[y_,y_,y_,y_,y_,y_,y_,y_,y_,y_,y_,y_,y_,y_,y_,y_,y_,y_,y_,y_,y_,y_,y_] ?_
     refine done_ (done_of HT_.out (by kernel_rfl)) ?_
     try go_wp2_with (first | ((with_reducible refine gate_callee (f := 73) rfl ?_); refine goesL_ (some 31) rfl rfl Try.func73 (by kernel_rfl) rfl #[] rfl (by (try simp only [List.map_toArray, List.map_cons, List.map_nil]); first | done | rfl) ?_; (with_reducible refine (lockgateref04_UAll.calls  t710 t711 _ A23.out).mono ?_); rintro e w27 ⟨rfl, hb⟩; refine ⟨_, rfl, ?_⟩; replace BK704 := bb_ hb BK704; replace BK705 := bb_ hb BK705; replace HB := bl_ hb; (try clear hb); (try clear hb2); (try clear hk); (try clear hi); have hnb28 := NB705_704.out; have hnc28 := NB704_705.out; have hcz29_0 := c0_ BK705; have hcz29_1 := c1_ BK705; have hfz29_0 := fz_ BK705 0; have hfz29_1 := fz_ BK705 1))
     (repeat (simp only [fl26_0, fl26_1]; go_wp2_with (first | ((with_reducible refine gate_callee (f := 73) rfl ?_); refine goesL_ (some 31) rfl rfl Try.func73 (by kernel_rfl) rfl #[] rfl (by (try simp only [List.map_toArray, List.map_cons, List.map_nil]); first | done | rfl) ?_; (with_reducible refine (lockgateref04_UAll.calls  t710 t711 _ A23.out).mono ?_); rintro e w27 ⟨rfl, hb⟩; refine ⟨_, rfl, ?_⟩; replace BK704 := bb_ hb BK704; replace BK705 := bb_ hb BK705; replace HB := bl_ hb; (try clear hb); (try clear hb2); (try clear hk); (try clear hi); have hnb28 := NB705_704.out; have hnc28 := NB704_705.out; have hcz29_0 := c0_ BK705; have hcz29_1 := c1_ BK705; have hfz29_0 := fz_ BK705 0; have hfz29_1 := fz_ BK705 1))))
     refine bodyPost_ret (results_cell_row rfl _ _ gb705 24 #[.int .u64 0, .int .u64 x3_1] (0, 0) _ rfl (by (with_reducible repeat (first | apply bN_ | apply bD_ | apply bA_)); refine blk_put (cs := #[.int .u64 0, .int .u64 0]) ?_ 1 _ rfl; (with_reducible repeat (first | apply bN_ | apply bD_ | apply bA_)); refine blk_put (cs := #[.int .u64 0, .int .u64 0]) ?_ 0 _ rfl; exact bk_) Try.underlying24 rfl (by kernel_rfl)) rfl ?_
     exact ⟨by first | rfl | (exfalso; simp only [decide_eq_true_eq, decide_eq_false_iff_not] at *; omega) | (simp [errW_none, errW_some] <;> rfl) | (simp [*, errW_none, errW_some] <;> rfl), bz_⟩
    ·rw [if_neg c24] at H
     have c24b0 : (x3_1 == t711) = false := beq_eq_false_iff_ne.mpr c24
     have c24b1 : (x3_1 != t711) = true := bne_iff_ne.mpr c24
     by_cases c30 : (IntKind.u64.wrap (x3_1 + 1)) = 0
     ·rw [if_pos c30] at H
      exact absurd H (by simp)
     ·rw [if_neg c30] at H
      have c30b0 : ((IntKind.u64.wrap (x3_1 + 1)) == 0) = false := beq_eq_false_iff_ne.mpr c30
      have c30b1 : ((IntKind.u64.wrap (x3_1 + 1)) != 0) = true := bne_iff_ne.mpr c30
      simp only [Option.some.injEq, Prod.mk.injEq] at H
      obtain ⟨rfl, rfl⟩ := H
      try go_wp2
      replace BK704 := Aside0.mk (blk_drew BK704.out)
      replace BK705 := Aside0.mk (blk_drew BK705.out)
      replace HB := Aside0.mk (below_drew1 HB.out)
      refine start_ (n := 23) (S := fun w' => True) (ds := []) #[n_,n_,n_,n_,n_,n_,n_,n_,n_,n_,n_,n_,n_,n_,n_,n_,n_,n_,n_,n_,n_,n_,n_] (by kernel_rfl) rfl rfl trivial (fun hHeld => ?_); refine with_tabW lockgateref04_ToT.tab2 lockgateref04_ToT.bits2 (fun HT_ HW_ => ?_)
      generalize wr.drew = w31 at BK704 BK705 HB hHeld ⊢
      refine pq_ 0 4 #[y_,n_,n_,n_,n_,n_,n_,n_,n_,n_,n_,n_,n_,n_,n_,n_,n_,n_,n_,n_,n_,n_,n_] ?_
      refine one_ (i := 1) (N := some 5) #[y_,y_,n_,n_,n_,n_,n_,n_,n_,n_,n_,n_,n_,n_,n_,n_,n_,n_,n_,n_,n_,n_,n_] rfl rfl (one_of HT_.out (by kernel_rfl)) (by decide) (fun K hK => ?_)
      refine goes_ Try.func73 (by kernel_rfl) rfl #[] (by rfl) rfl rfl (by (try simp only [List.map_toArray, List.map_cons, List.map_nil]); first | done | rfl) ?_
      with_reducible refine (lockgateref04_UAll.calls  t706 t707 _ A4.out).mono ?_
      rintro e w32 ⟨rfl, hb⟩
      refine ⟨_, rfl, ?_⟩
      replace BK704 := bb_ hb BK704
      replace BK705 := bb_ hb BK705
      replace HB := bl_ hb
      try clear hb
      refine hK.out _ _ trivial (fun hHeld => ?_)
      clear hK K
      refine norm_ (a' := ?_) ?_ ?_
      rotate_left
      ·show Act.put _ (some 5) _ = _
       simp only [Act.put, s1_, s2_, s3_, i64_w, i32_w]
       rfl
      refine pq_ 2 6 #[y_,y_,y_,n_,n_,n_,n_,n_,n_,n_,n_,n_,n_,n_,n_,n_,n_,n_,n_,n_,n_,n_,n_] ?_
      refine pq_ 3 7 #[y_,y_,y_,y_,n_,n_,n_,n_,n_,n_,n_,n_,n_,n_,n_,n_,n_,n_,n_,n_,n_,n_,n_] ?_
      refine pq_ 4 8 #[y_,y_,y_,y_,y_,n_,n_,n_,n_,n_,n_,n_,n_,n_,n_,n_,n_,n_,n_,n_,n_,n_,n_] ?_
      refine pu_ 5 9 #[y_,y_,y_,y_,y_,y_,n_,n_,n_,n_,n_,n_,n_,n_,n_,n_,n_,n_,n_,n_,n_,n_,n_] ?_
      refine pu_ 6 10 #[y_,y_,y_,y_,y_,y_,y_,n_,n_,n_,n_,n_,n_,n_,n_,n_,n_,n_,n_,n_,n_,n_,n_] ?_
      refine pu_ 7 11 #[y_,y_,y_,y_,y_,y_,y_,y_,n_,n_,n_,n_,n_,n_,n_,n_,n_,n_,n_,n_,n_,n_,n_] ?_
      refine pu_ 8 12 #[y_,y_,y_,y_,y_,y_,y_,y_,y_,n_,n_,n_,n_,n_,n_,n_,n_,n_,n_,n_,n_,n_,n_] ?_
      refine pu_ 9 13 #[y_,y_,y_,y_,y_,y_,y_,y_,y_,y_,n_,n_,n_,n_,n_,n_,n_,n_,n_,n_,n_,n_,n_] ?_
      refine pu_ 10 14 #[y_,y_,y_,y_,y_,y_,y_,y_,y_,y_,y_,n_,n_,n_,n_,n_,n_,n_,n_,n_,n_,n_,n_] ?_
      refine pu_ 11 15 #[y_,y_,y_,y_,y_,y_,y_,y_,y_,y_,y_,y_,n_,n_,n_,n_,n_,n_,n_,n_,n_,n_,n_] ?_
      refine pu_ 12 16 #[y_,y_,y_,y_,y_,y_,y_,y_,y_,y_,y_,y_,y_,n_,n_,n_,n_,n_,n_,n_,n_,n_,n_] ?_
      refine pu_ 13 17 #[y_,y_,y_,y_,y_,y_,y_,y_,y_,y_,y_,y_,y_,y_,n_,n_,n_,n_,n_,n_,n_,n_,n_] ?_
      refine pu_ 14 18 #[y_,y_,y_,y_,y_,y_,y_,y_,y_,y_,y_,y_,y_,y_,y_,n_,n_,n_,n_,n_,n_,n_,n_] ?_
      refine pu_ 15 19 #[y_,y_,y_,y_,y_,y_,y_,y_,y_,y_,y_,y_,y_,y_,y_,y_,n_,n_,n_,n_,n_,n_,n_] ?_
      refine pu_ 16 20 #[y_,y_,y_,y_,y_,y_,y_,y_,y_,y_,y_,y_,y_,y_,y_,y_,y_,n_,n_,n_,n_,n_,n_] ?_
      refine pu_ 17 21 #[y_,y_,y_,y_,y_,y_,y_,y_,y_,y_,y_,y_,y_,y_,y_,y_,y_,y_,n_,n_,n_,n_,n_] ?_
      refine pu_ 18 22 #[y_,y_,y_,y_,y_,y_,y_,y_,y_,y_,y_,y_,y_,y_,y_,y_,y_,y_,y_,n_,n_,n_,n_] ?_
      refine pu_ 19 23 #[y_,y_,y_,y_,y_,y_,y_,y_,y_,y_,y_,y_,y_,y_,y_,y_,y_,y_,y_,y_,n_,n_,n_] ?_
      refine pu_ 20 24 #[y_,y_,y_,y_,y_,y_,y_,y_,y_,y_,y_,y_,y_,y_,y_,y_,y_,y_,y_,y_,y_,n_,n_] ?_
      refine pu_ 21 25 #[y_,y_,y_,y_,y_,y_,y_,y_,y_,y_,y_,y_,y_,y_,y_,y_,y_,y_,y_,y_,y_,y_,n_] ?_
      refine pq_ 22 26 #[y_,y_,y_,y_,y_,y_,y_,y_,y_,y_,y_,y_,y_,y_,y_,y_,y_,y_,y_,y_,y_,y_,y_] ?_
      refine done_ (done_of HT_.out (by kernel_rfl)) ?_
      try go_wp2_with (first | ((with_reducible refine gate_callee (f := 73) rfl ?_); refine goesL_ (some 31) rfl rfl Try.func73 (by kernel_rfl) rfl #[] rfl (by (try simp only [List.map_toArray, List.map_cons, List.map_nil]); first | done | rfl) ?_; (with_reducible refine (lockgateref04_UAll.calls  t710 t711 _ A23.out).mono ?_); rintro e w33 ⟨rfl, hb⟩; refine ⟨_, rfl, ?_⟩; replace BK704 := bb_ hb BK704; replace BK705 := bb_ hb BK705; replace HB := bl_ hb; (try clear hb); (try clear hb2); (try clear hk); (try clear hi)))
      (repeat (simp only [fl26_0, fl26_1]; go_wp2_with (first | ((with_reducible refine gate_callee (f := 73) rfl ?_); refine goesL_ (some 31) rfl rfl Try.func73 (by kernel_rfl) rfl #[] rfl (by (try simp only [List.map_toArray, List.map_cons, List.map_nil]); first | done | rfl) ?_; (with_reducible refine (lockgateref04_UAll.calls  t710 t711 _ A23.out).mono ?_); rintro e w33 ⟨rfl, hb⟩; refine ⟨_, rfl, ?_⟩; replace BK704 := bb_ hb BK704; replace BK705 := bb_ hb BK705; replace HB := bl_ hb; (try clear hb); (try clear hb2); (try clear hk); (try clear hi)))))
      replace BK704 := Aside0.mk (blk_drew BK704.out)
      replace BK705 := Aside0.mk (blk_drew BK705.out)
      replace HB := Aside0.mk (below_drew1 HB.out)
      refine start_ (n := 11) (S := fun w' => w'.cell? ⟨gb704, 0, none⟩ = some (.int .u64 a0_0) ∧ w'.cell? ⟨gb704, 1, none⟩ = some (.int .u64 a0_1)) (ds := []) #[n_,n_,n_,n_,n_,n_,n_,n_,n_,n_,n_] (by kernel_rfl) rfl rfl ⟨c0_ BK704, c1_ BK704⟩ (fun hHeld => ?_); refine with_tabW lockgateref04_ToT.tab6 lockgateref04_ToT.bits6 (fun HT_ HW_ => ?_)
      generalize w33.drew = w34 at BK704 BK705 HB hHeld ⊢
      refine pq_ 0 36 #[y_,n_,n_,n_,n_,n_,n_,n_,n_,n_,n_] ?_
      refine pq_ 2 38 #[y_,n_,y_,n_,n_,n_,n_,n_,n_,n_,n_] ?_
      refine pq_ 4 40 #[y_,n_,y_,n_,y_,n_,n_,n_,n_,n_,n_] ?_
      refine pq_ 5 41 #[y_,n_,y_,n_,y_,y_,n_,n_,n_,n_,n_] ?_
      refine pq_ 8 44 #[y_,n_,y_,n_,y_,y_,n_,n_,y_,n_,n_] ?_
      refine tq0_ 1 37 #[y_,y_,y_,n_,y_,y_,n_,n_,y_,n_,n_] hHeld ?_
      refine tq0_ 3 39 #[y_,y_,y_,y_,y_,y_,n_,n_,y_,n_,n_] hHeld ?_
      refine pq_ 6 42 #[y_,y_,y_,y_,y_,y_,y_,n_,y_,n_,n_] ?_
      refine pq_ 7 43 #[y_,y_,y_,y_,y_,y_,y_,y_,y_,n_,n_] ?_
      refine pq_ 9 45 #[y_,y_,y_,y_,y_,y_,y_,y_,y_,y_,n_] ?_
      refine one_ (i := 10) (N := none) #[y_,y_,y_,y_,y_,y_,y_,y_,y_,y_,y_] rfl rfl (one_of HT_.out (by kernel_rfl)) (by decide) (fun K hK => ?_)
      have hs35 := c0_ BK705
      have hfs35 := fz_ BK705 0
      have hns35_0 := NB704_705.out
      have hms35_0 := NB705_704.out
      have hs36 := c1_ BK705
      have hfs36 := fz_ BK705 1
      have hns36_0 := NB704_705.out
      have hms36_0 := NB705_704.out
      refine skip_ (w1 := ?_) (by rfl) rfl ?_ ?_
      rotate_left
      ·go_simp
       rfl
      refine hK.out _ _ ⟨((cell_far (p := ⟨gb705, _, none⟩) NB704_705.out _).trans (((cell_far (p := ⟨gb705, _, none⟩) NB704_705.out _).trans (hHeld.1)))), ((cell_far (p := ⟨gb705, _, none⟩) NB704_705.out _).trans (((cell_far (p := ⟨gb705, _, none⟩) NB704_705.out _).trans (hHeld.2))))⟩ (fun hHeld => ?_)
      clear hK K
      refine done_ (done_of HT_.out (by kernel_rfl)) ?_
      try go_wp2
      refine bodyPost_ret (results_cell_row rfl _ _ gb705 24 #[.int .u64 (IntKind.u64.wrap (a0_0 - (Int.tmod a0_0 (IntKind.u64.wrap (x3_1 + 1))))), .int .u64 x3_1] (0, 0) _ rfl (by (with_reducible repeat (first | apply bN_ | apply bD_ | apply bA_)); refine blk_put (cs := #[.int .u64 (IntKind.u64.wrap (a0_0 - (Int.tmod a0_0 (IntKind.u64.wrap (x3_1 + 1))))), .int .u64 0]) ?_ 1 _ rfl; (with_reducible repeat (first | apply bN_ | apply bD_ | apply bA_)); refine blk_put (cs := #[.int .u64 0, .int .u64 0]) ?_ 0 _ rfl; exact bk_) Try.underlying24 rfl (by kernel_rfl)) rfl ?_
      exact ⟨by first | rfl | (exfalso; simp only [decide_eq_true_eq, decide_eq_false_iff_not] at *; omega) | (simp [errW_none, errW_some] <;> rfl) | (simp [*, errW_none, errW_some] <;> rfl), bz_⟩

end Go.Proofs.Ytnephcecobocdaa.PA
