import Derived.Test.YticijjonimiooaaWRepsOne
import Derived.Test.YticijjonimiooaaPA0
import Derived.Test.YticijjonimiooaaSq
import Derived.Test.YticijjonimiooaaPA18
namespace Go.Proofs.Yticijjonimiooaa.PA
open Go.RowKit Go.Proofs.YticijjonimiooaaW.PrintWords Go.Proofs.YticijjonimiooaaW.PrintLast Go.Proofs.YticijjonimiooaaW.PrintMore
attribute [local go_sem] max2_int min2_int max_two min_two max_three min_three max_four min_four
set_option linter.unusedVariables false
set_option linter.unusedSimpArgs false
mutual
def lockgateref02_One.l0 : Nat → List Int → List Int → List Int → Int → Int → Int → Int → Int → Int → Option (List Int)
 | 0, _, _, _, _, _, _, _, _, _ => none
 | k + 1, x3, x4, x5, x6, x269000, x269001, x269002, x269003, x269004 => if x6 < 2 then (if 0 ≤ x6 then (if x6 < (x4.length : Int) then (if x3.length < 140737488355328 then (lockgateref02_One.l0 k (x3 ++ [rd x4 x6]) x4 x5 (wrap64 (x6 + 1)) x269000 x269001 x269002 x269003 x269004) else (none)) else (none)) else (none)) else (lockgateref02_One.l1 k x3 x5 0 x269000 x269001 x269002 x269003 x269004)
def lockgateref02_One.l1 : Nat → List Int → List Int → Int → Int → Int → Int → Int → Int → Option (List Int)
 | 0, _, _, _, _, _, _, _, _ => none
 | k + 1, x3, x5, x7, x269000, x269001, x269002, x269003, x269004 => if x7 < 4 then (if 0 ≤ x7 then (if x7 < (x5.length : Int) then (if x3.length < 140737488355328 then (lockgateref02_One.l1 k (x3 ++ [rd x5 x7]) x5 (wrap64 (x7 + 1)) x269000 x269001 x269002 x269003 x269004) else (none)) else (none)) else (none)) else (if x269000 = 24 then (lockgateref02_One.l2 k x3 x5 0) else (some x3))
def lockgateref02_One.l2 : Nat → List Int → List Int → Int → Option (List Int)
 | 0, _, _, _ => none
 | k + 1, x3, x5, x8 => if x8 < 4 then (if x3.length < 140737488355328 then (lockgateref02_One.l2 k (x3 ++ [0]) x5 (wrap64 (x8 + 1))) else (none)) else (lockgateref02_One.l3 k x3 x5 4)
def lockgateref02_One.l3 : Nat → List Int → List Int → Int → Option (List Int)
 | 0, _, _, _ => none
 | k + 1, x3, x5, x9 => if x9 < 8 then (if 0 ≤ x9 then (if x9 < (x5.length : Int) then (if x3.length < 140737488355328 then (lockgateref02_One.l3 k (x3 ++ [rd x5 x9]) x5 (wrap64 (x9 + 1))) else (none)) else (none)) else (none)) else (some x3)
end
def lockgateref02_One.f (k : Nat) (a0_0 : Int) (a0_1 : Int) (a0_2 : Int) (a0_3 : Int) (a0_4 : Int) : Option (List Int) := (lockgateref02_bytes.f k (IntKind.u64.wrap (a0_3)) 2).bind fun t272 => ((lockgateref02_bytes.f k (IntKind.u64.wrap (a0_4)) 8).bind fun t275 => (lockgateref02_One.l0 k (([(a0_0) % 256, (wrap64 ((wrap64 (16 * a0_2)) + a0_1)) % 256] : List Int)) t272 t275 0 a0_0 a0_1 a0_2 a0_3 a0_4))
theorem lockgateref02_One.mono_l : ∀ k, (∀ y0 y1 y2 y3 y4 y5 y6 y7 y8, LeO (lockgateref02_One.l0 k y0 y1 y2 y3 y4 y5 y6 y7 y8) (lockgateref02_One.l0 (k + 1) y0 y1 y2 y3 y4 y5 y6 y7 y8)) ∧ (∀ y0 y1 y2 y3 y4 y5 y6 y7, LeO (lockgateref02_One.l1 k y0 y1 y2 y3 y4 y5 y6 y7) (lockgateref02_One.l1 (k + 1) y0 y1 y2 y3 y4 y5 y6 y7)) ∧ (∀ y0 y1 y2, LeO (lockgateref02_One.l2 k y0 y1 y2) (lockgateref02_One.l2 (k + 1) y0 y1 y2)) ∧ (∀ y0 y1 y2, LeO (lockgateref02_One.l3 k y0 y1 y2) (lockgateref02_One.l3 (k + 1) y0 y1 y2))
 | 0 => ⟨fun _ _ _ _ _ _ _ _ _ r h => by simp [lockgateref02_One.l0] at h, fun _ _ _ _ _ _ _ _ r h => by simp [lockgateref02_One.l1] at h, fun _ _ _ r h => by simp [lockgateref02_One.l2] at h, fun _ _ _ r h => by simp [lockgateref02_One.l3] at h⟩
 | k + 1 => by
  obtain ⟨ih0, ih1, ih2, ih3⟩ := lockgateref02_One.mono_l k
  refine ⟨?_, ?_, ?_, ?_⟩
  ·intro y0 y1 y2 y3 y4 y5 y6 y7 y8
   unfold lockgateref02_One.l0
   repeat' first
   | (with_reducible exact ih0 _ _ _ _ _ _ _ _ _)
   | (with_reducible exact ih1 _ _ _ _ _ _ _ _)
   | (with_reducible exact ih2 _ _ _)
   | (with_reducible exact ih3 _ _ _)
   | (with_reducible exact lockgateref02_bytes.mono _ _ _)
   | (with_reducible exact LeO.refl _)
   | (with_reducible exact LeO.none _)
   | (with_reducible refine LeO.ite ?_ ?_)
   | (with_reducible refine LeO.bind ?_ (fun _ => ?_))
   | exact ih0 _ _ _ _ _ _ _ _ _
   | exact ih1 _ _ _ _ _ _ _ _
   | exact ih2 _ _ _
   | exact ih3 _ _ _
   | exact lockgateref02_bytes.mono _ _ _
   | exact LeO.none _
   | refine LeO.ite ?_ ?_
   | refine LeO.bind ?_ (fun _ => ?_)
  ·intro y0 y1 y2 y3 y4 y5 y6 y7
   unfold lockgateref02_One.l1
   repeat' first
   | (with_reducible exact ih0 _ _ _ _ _ _ _ _ _)
   | (with_reducible exact ih1 _ _ _ _ _ _ _ _)
   | (with_reducible exact ih2 _ _ _)
   | (with_reducible exact ih3 _ _ _)
   | (with_reducible exact lockgateref02_bytes.mono _ _ _)
   | (with_reducible exact LeO.refl _)
   | (with_reducible exact LeO.none _)
   | (with_reducible refine LeO.ite ?_ ?_)
   | (with_reducible refine LeO.bind ?_ (fun _ => ?_))
   | exact ih0 _ _ _ _ _ _ _ _ _
   | exact ih1 _ _ _ _ _ _ _ _
   | exact ih2 _ _ _
   | exact ih3 _ _ _
   | exact lockgateref02_bytes.mono _ _ _
   | exact LeO.none _
   | refine LeO.ite ?_ ?_
   | refine LeO.bind ?_ (fun _ => ?_)
  ·intro y0 y1 y2
   unfold lockgateref02_One.l2
   repeat' first
   | (with_reducible exact ih0 _ _ _ _ _ _ _ _ _)
   | (with_reducible exact ih1 _ _ _ _ _ _ _ _)
   | (with_reducible exact ih2 _ _ _)
   | (with_reducible exact ih3 _ _ _)
   | (with_reducible exact lockgateref02_bytes.mono _ _ _)
   | (with_reducible exact LeO.refl _)
   | (with_reducible exact LeO.none _)
   | (with_reducible refine LeO.ite ?_ ?_)
   | (with_reducible refine LeO.bind ?_ (fun _ => ?_))
   | exact ih0 _ _ _ _ _ _ _ _ _
   | exact ih1 _ _ _ _ _ _ _ _
   | exact ih2 _ _ _
   | exact ih3 _ _ _
   | exact lockgateref02_bytes.mono _ _ _
   | exact LeO.none _
   | refine LeO.ite ?_ ?_
   | refine LeO.bind ?_ (fun _ => ?_)
  intro y0 y1 y2
  unfold lockgateref02_One.l3
  repeat' first
  | (with_reducible exact ih0 _ _ _ _ _ _ _ _ _)
  | (with_reducible exact ih1 _ _ _ _ _ _ _ _)
  | (with_reducible exact ih2 _ _ _)
  | (with_reducible exact ih3 _ _ _)
  | (with_reducible exact lockgateref02_bytes.mono _ _ _)
  | (with_reducible exact LeO.refl _)
  | (with_reducible exact LeO.none _)
  | (with_reducible refine LeO.ite ?_ ?_)
  | (with_reducible refine LeO.bind ?_ (fun _ => ?_))
  | exact ih0 _ _ _ _ _ _ _ _ _
  | exact ih1 _ _ _ _ _ _ _ _
  | exact ih2 _ _ _
  | exact ih3 _ _ _
  | exact lockgateref02_bytes.mono _ _ _
  | exact LeO.none _
  | refine LeO.ite ?_ ?_
  | refine LeO.bind ?_ (fun _ => ?_)
theorem lockgateref02_One.mono : ∀ a0 a1 a2 a3 a4 k, LeO (lockgateref02_One.f k a0 a1 a2 a3 a4) (lockgateref02_One.f (k + 1) a0 a1 a2 a3 a4) := by
 intro a0 a1 a2 a3 a4 k
 obtain ⟨ih0, ih1, ih2, ih3⟩ := lockgateref02_One.mono_l k
 unfold lockgateref02_One.f
 repeat' first
  | (with_reducible exact ih0 _ _ _ _ _ _ _ _ _)
  | (with_reducible exact ih1 _ _ _ _ _ _ _ _)
  | (with_reducible exact ih2 _ _ _)
  | (with_reducible exact ih3 _ _ _)
  | (with_reducible exact lockgateref02_bytes.mono _ _ _)
  | (with_reducible exact LeO.refl _)
  | (with_reducible exact LeO.none _)
  | (with_reducible refine LeO.ite ?_ ?_)
  | (with_reducible refine LeO.bind ?_ (fun _ => ?_))
  | exact ih0 _ _ _ _ _ _ _ _ _
  | exact ih1 _ _ _ _ _ _ _ _
  | exact ih2 _ _ _
  | exact ih3 _ _ _
  | exact lockgateref02_bytes.mono _ _ _
  | exact LeO.none _
  | refine LeO.ite ?_ ?_
  | refine LeO.bind ?_ (fun _ => ?_)
set_option maxHeartbeats 8000000 in
set_option maxRecDepth 100000 in
theorem lockgateref02_One.calls (k : Nat) (a0_0 : Int) (a0_1 : Int) (a0_2 : Int) (a0_3 : Int) (a0_4 : Int) (r : List Int) (w : World) (h : lockgateref02_One.f k a0_0 a0_1 a0_2 a0_3 a0_4 = some r) :
 Calls Try.prog 34 #[.agg #[.int .i64 a0_0, .int .i64 a0_1, .int .i64 a0_2, .int .i64 a0_3, .int .i64 a0_4]] w fun e w' => ∃ v0_ : Value, e = .returned (v0_) ∧ Kd.R (Kd.int .u8) 5 w' w.heap.size (fun _ => True) v0_ r ∧ Below w.heap.size w w' := by
 have hu40 := Try.underlying40
 have HB := Aside0.mk (Below.refl w.heap.size w)
 have H : ((lockgateref02_bytes.f k (IntKind.u64.wrap (a0_3)) 2).bind fun t272 => ((lockgateref02_bytes.f k (IntKind.u64.wrap (a0_4)) 8).bind fun t275 => (lockgateref02_One.l0 k (([(a0_0) % 256, (wrap64 ((wrap64 (16 * a0_2)) + a0_1)) % 256] : List Int)) t272 t275 0 a0_0 a0_1 a0_2 a0_3 a0_4))) = some r := h
 clear h
 obtain ⟨y269, hy269⟩ : ∃ Y : List Int, Y = (([(a0_0) % 256, (wrap64 ((wrap64 (16 * a0_2)) + a0_1)) % 256] : List Int)) := ⟨_, rfl⟩
 replace H : ((lockgateref02_bytes.f k (IntKind.u64.wrap (a0_3)) 2).bind fun t272 => ((lockgateref02_bytes.f k (IntKind.u64.wrap (a0_4)) 8).bind fun t275 => (lockgateref02_One.l0 k y269 t272 t275 0 a0_0 a0_1 a0_2 a0_3 a0_4))) = some r := by first | (rw [hy269]; with_reducible exact H) | (have H2_ := (Option.bind_some _ _).symm.trans H; rw [hy269]; with_reducible exact H2_) | (have H2_ := (Option.bind_some _ _).symm.trans H; with_reducible exact H2_) | with_reducible exact H | (rw [hy269]; exact H) | exact H
 have Ny269 := Aside0.mk hy269
 clear hy269
 replace H := Option.bind_eq_some_iff.mp H
 obtain ⟨t272, A20, H⟩ := H
 (try dsimp only at H)
 have A2 := Aside0.mk A20
 clear A20
 replace H := Option.bind_eq_some_iff.mp H
 obtain ⟨t275, A30, H⟩ := H
 (try dsimp only at H)
 have A3 := Aside0.mk A30
 clear A30
 have H' := Aside0.mk H
 clear H
 go_enter Try.func34, Try.ntmps34
 go_wp2_with (first | ((with_reducible refine gate_dst (N := 1) rfl ?_); refine bx_ 1 #[.int .i64 a0_0, .int .i64 a0_1, .int .i64 a0_2, .int .i64 a0_3, .int .i64 a0_4] 40 ?_; intro gb268 hg w4 BK268 hb; have GW268 := bg_ hg; have GE268 := GW268; replace HB := bl_ hb; clear hb hg; obtain ⟨zc5_0, zc5_1, zc5_2, zc5_3, zc5_4, zf5_0, zf5_1, zf5_2, zf5_3, zf5_4⟩ := k5_ BK268) | ((with_reducible refine gate_dst (N := 20) rfl ?_); refine Kd.R_lit (Kd.int .u8) _ 5 ?hg (N := 20) ?hd (xs := ([(a0_0) % 256, (wrap64 ((wrap64 (16 * a0_2)) + a0_1)) % 256] : List Int)) (inner := [.int .u8 ((a0_0) % 256), .int .u8 ((wrap64 ((wrap64 (16 * a0_2)) + a0_1)) % 256)]) (ok := fun _ => True) (okp := fun _ => True) ?hr ?hp (fun _ hk => hk) trivial (Below.refl _ _) (Nat.le_refl _) (by simp) ?_; (case hd => rfl); (case hg => rfl); (case hr => first | (go_simp; done) | (go_simp; rfl)); (case hp => exact (Reps.one (show Kd.M (Kd.int .u8) _ _ _ ((a0_0) % 256) [.int .u8 ((a0_0) % 256)] from rfl) (Reps.one (show Kd.M (Kd.int .u8) _ _ _ ((wrap64 ((wrap64 (16 * a0_2)) + a0_1)) % 256) [.int .u8 ((wrap64 ((wrap64 (16 * a0_2)) + a0_1)) % 256)] from rfl) (Reps.none _ _)))); intro v270 w6 ho7 hb hg_ hnew_; clear hg_ hnew_; (first | rw [← Ny269.out] at ho7 | (simp only [Int.reduceToNat] at ho7; rw [← Ny269.out] at ho7)); have HO271 := Aside0.mk (Kd.R_lower ho7 (below_size bz_)); replace BK268 := bb_ hb BK268; replace HB := bl_ hb; clear hb ho7; obtain ⟨zc8_0, zc8_1, zc8_2, zc8_3, zc8_4, zf8_0, zf8_1, zf8_2, zf8_3, zf8_4⟩ := k5_ BK268) | ((with_reducible refine gate_callee (f := 44) rfl ?_); refine goesL_ (some 24) rfl rfl Try.func44 (by kernel_rfl) rfl #[.int .u64 (IntKind.u64.wrap (a0_3)), .int .i64 2] rfl mp_ ?_; (with_reducible refine (lockgateref02_bytes.calls k (IntKind.u64.wrap (a0_3)) 2 t272 _ A2.out).mono ?_); rintro e w9 ⟨v273, rfl, ho0, hb⟩; refine ⟨_, rfl, ?_⟩; have n0_ := Aside0.mk (Kd.R_elder' (ra_ HO271.out) (Kd.R_base ho0) hb); have n1_ := Aside0.mk (Kd.R_lower (Kd.R_new' ho0 (Kd.R_lt (ra_ HO271.out))) (below_size bz_)); have n2_ := bb_ hb BK268; have n3_ := bl_ hb; clear HO271; clear BK268; clear HB; have HO271 := n0_; have HO274 := n1_; have BK268 := n2_; have HB := n3_; clear n0_ n1_ n2_ n3_; (try clear hb); (try clear hk); (try clear ho0); obtain ⟨zc10_0, zc10_1, zc10_2, zc10_3, zc10_4, zf10_0, zf10_1, zf10_2, zf10_3, zf10_4⟩ := k5_ BK268) | ((with_reducible refine gate_callee (f := 44) rfl ?_); refine goesL_ (some 28) rfl rfl Try.func44 (by kernel_rfl) rfl #[.int .u64 (IntKind.u64.wrap (a0_4)), .int .i64 8] rfl mp_ ?_; (with_reducible refine (lockgateref02_bytes.calls k (IntKind.u64.wrap (a0_4)) 8 t275 _ A3.out).mono ?_); rintro e w11 ⟨v276, rfl, ho0, hb⟩; refine ⟨_, rfl, ?_⟩; have n0_ := Aside0.mk (Kd.R_elder' (ra_ HO271.out) (Kd.R_base ho0) hb); have n1_ := Aside0.mk (Kd.R_elder' (ra_ HO274.out) (Kd.R_base ho0) hb); have n2_ := Aside0.mk (Kd.R_lower (Kd.R_new' (Kd.R_new' ho0 (Kd.R_lt (ra_ HO271.out))) (Kd.R_lt (ra_ HO274.out))) (below_size bz_)); have n3_ := bb_ hb BK268; have n4_ := bl_ hb; clear HO271; clear HO274; clear BK268; clear HB; have HO271 := n0_; have HO274 := n1_; have HO277 := n2_; have BK268 := n3_; have HB := n4_; clear n0_ n1_ n2_ n3_ n4_; (try clear hb); (try clear hk); (try clear ho0)))
 go_loopg [3, 6] k (fun kq v3 v6 w' => ∃ (x3_1 : List Int) (x6_1 : Int), v6 = .int .i64 x6_1 ∧ Aside0 (lockgateref02_One.l0 kq x3_1 t272 t275 x6_1 a0_0 a0_1 a0_2 a0_3 a0_4 = some r) ∧ Aside0 (kq ≤ k) ∧ Aside0 (Kd.R (Kd.int .u8) 5 w' w.heap.size (fun k_ => some k_ ≠ (v273 : Value).ownBlock ∧ some k_ ≠ (v276 : Value).ownBlock) v3 x3_1) ∧ Aside0 (Kd.R (Kd.int .u8) 5 w' w.heap.size (fun k_ => some k_ ≠ (v3 : Value).ownBlock ∧ some k_ ≠ (v276 : Value).ownBlock) v273 t272) ∧ Aside0 (Kd.R (Kd.int .u8) 5 w' w.heap.size (fun k_ => some k_ ≠ (v3 : Value).ownBlock ∧ some k_ ≠ (v273 : Value).ownBlock) v276 t275) ∧ Aside0 (w'.heap[gb268]? = some (.cells #[.int .i64 a0_0, .int .i64 a0_1, .int .i64 a0_2, .int .i64 a0_3, .int .i64 a0_4] 40 (0, 0))) ∧ Aside0 (Below w.heap.size w w'))
 case atStart => exact ⟨(y269), (0), vs_, H', ⟨Nat.le_refl _⟩, ⟨by (with_reducible repeat (first | apply Kd.R_alloc | apply Kd.R_drewN | apply Kd.R_drew)); exact Kd.R_mono HO271.out (fun _ hk => ⟨hk.1.2, hk.2⟩)⟩, ⟨by (with_reducible repeat (first | apply Kd.R_alloc | apply Kd.R_drewN | apply Kd.R_drew)); exact Kd.R_mono HO274.out (fun _ hk => ⟨hk.1.2, hk.2⟩)⟩, ⟨by (with_reducible repeat (first | apply Kd.R_alloc | apply Kd.R_drewN | apply Kd.R_drew)); exact Kd.R_mono HO277.out (fun _ hk => ⟨hk.1.2, hk.2⟩)⟩, ⟨bk_⟩, ⟨bz_⟩⟩
 case round =>
  clear H'
  try clear p2
  try clear c3
  try clear c4
  try clear p6
  try clear zc10_0
  try clear zc10_1
  try clear zc10_2
  try clear zc10_3
  try clear zc10_4
  try clear zc5_0
  try clear zc5_1
  try clear zc5_2
  try clear zc5_3
  try clear zc5_4
  try clear zc8_0
  try clear zc8_1
  try clear zc8_2
  try clear zc8_3
  try clear zc8_4
  try clear zf10_0
  try clear zf10_1
  try clear zf10_2
  try clear zf10_3
  try clear zf10_4
  try clear zf5_0
  try clear zf5_1
  try clear zf5_2
  try clear zf5_3
  try clear zf5_4
  try clear zf8_0
  try clear zf8_1
  try clear zf8_2
  try clear zf8_3
  try clear zf8_4
  obtain ⟨x3_1, x6_1, rfl, HA, HK1, HO_3, HO_4, HO_5, BK268, HB⟩ := hrel
  cases gk with
  | zero => exact absurd HA.out (by simp [lockgateref02_One.l0])
  | succ k1 =>
   have H := HA.out
   clear HA
   simp only [lockgateref02_One.l0] at H
   by_cases c12 : x6_1 < 2
   ·rw [if_pos c12] at H
    have c12b0 : decide (x6_1 < 2) = true := decide_eq_true c12
    clear c12
    by_cases c13 : 0 ≤ x6_1
    rotate_left
    ·rw [if_neg c13] at H
     exact absurd H (by simp)
    rw [if_pos c13] at H
    have c13b0 : decide (0 ≤ x6_1) = true := decide_eq_true c13
    clear c13
    by_cases c14 : x6_1 < (t272.length : Int)
    rotate_left
    ·rw [if_neg c14] at H
     exact absurd H (by simp)
    rw [if_pos c14] at H
    have c14b0 : decide (x6_1 < (t272.length : Int)) = true := decide_eq_true c14
    clear c14
    by_cases c15 : x3_1.length < 140737488355328
    ·rw [if_pos c15] at H
     have LMc15 := Aside0.mk c15
     clear c15
     obtain ⟨y279, hy279⟩ : ∃ Y : List Int, Y = (x3_1 ++ [rd t272 x6_1]) := ⟨_, rfl⟩
     replace H : (lockgateref02_One.l0 k1 y279 t272 t275 (wrap64 (x6_1 + 1)) a0_0 a0_1 a0_2 a0_3 a0_4) = some r := by first | (rw [hy279]; with_reducible exact H) | (have H2_ := (Option.bind_some _ _).symm.trans H; rw [hy279]; with_reducible exact H2_) | (have H2_ := (Option.bind_some _ _).symm.trans H; with_reducible exact H2_) | with_reducible exact H | (rw [hy279]; exact H) | exact H
     have Ny279 := Aside0.mk hy279
     clear hy279
     have H' := Aside0.mk H
     clear H
     obtain ⟨Ao16, co16, eo16⟩ := Kd.R_slice HO_4.out
     subst eo16
     have p278 : 0 ≤ (x6_1 : Int) := of_decide_eq_true as_
     have q278 : x6_1 < (t272.length : Int) := of_decide_eq_true as_
     obtain ⟨ad278, e278, hx278_0⟩ := Kd.at_int (Kd.R_reads' HO_4.out).2.2 x6_1 p278 q278
     cases e278
     replace p278 := eq_true p278
     replace q278 := eq_true q278
     go_wp2_with (first | ((with_reducible refine gate_builtin (b := .append) (xs := #[.tmp 33, .tmp 38]) rfl ?_); at_builtin; refine Kd.R_append (Kd.int .u8) (w0 := w) w.heap.size rfl (.tmp 33) (.tmp 38) 25 5 (.int .u8 0) 1 rfl Try.underlying25 info5 rfl (by decide) (by omega) u3 x3_1 (rd t272 x6_1) [.int .u8 (rd t272 x6_1)] (fun k_ => some k_ ≠ (.slice (some ad278) t272.length co16 : Value).ownBlock ∧ some k_ ≠ (v276 : Value).ownBlock) (fun _ => False) rfl rfl ?aP (fun _ hk => hk.elim) ?aF ?aO ?aB ?aS ?aL ?_; (case aP => exact rfl); (case aB => exact bz_); (case aF => exact (fun k_ hk => ⟨Kd.fresh' (Kd.R_lt (ra_ HO_4.out)) k_ hk, Kd.fresh' (Kd.R_lt (ra_ HO_5.out)) k_ hk⟩)); (case aO => exact (ra_ HO_3.out)); (case aS => exact (below_size bz_)); (case aL => have := LMc15.out; omega); intro v280 w17 ho hb hg hat; rw [← Ny279.out] at ho; have n0_ := Aside0.mk (Kd.R_after (ok := (fun k_ => some k_ ≠ (v276 : Value).ownBlock)) (by (with_reducible repeat (first | apply Kd.R_alloc | apply Kd.R_drewN | apply Kd.R_drew)); exact Kd.R_mono HO_4.out (fun _ hk => ⟨hk.2, hk.1⟩)) hg hat); have n1_ := Aside0.mk (Kd.R_after (ok := (fun k_ => some k_ ≠ (.slice (some ad278) t272.length co16 : Value).ownBlock)) (by (with_reducible repeat (first | apply Kd.R_alloc | apply Kd.R_drewN | apply Kd.R_drew)); exact Kd.R_mono HO_5.out (fun _ hk => ⟨hk.2, hk.1⟩)) hg hat); have n2_ := Aside0.mk (blk_grown (g := gb268) (o := .cells #[.int .i64 a0_0, .int .i64 a0_1, .int .i64 a0_2, .int .i64 a0_3, .int .i64 a0_4] 40 (0, 0)) bk_ hg (Kd.R_ne HO_3.out BK268.out (by decide))); have n3_ := Aside0.mk (hb); have n4_ := Aside0.mk (ho); clear HO_4; clear HO_5; clear BK268; clear HB; clear HO_3; have HO_4 := n0_; have HO_5 := n1_; have BK268 := n2_; have HB := n3_; have HO281 := n4_; clear n0_ n1_ n2_ n3_ n4_; clear ho hb hg hat))
     go_roundg k1
     case measure => have := HK1.out; omega
     case rel => exact ⟨(y279), (wrap64 (x6_1 + 1)), vs_, H', ⟨by have := HK1.out; omega⟩, ⟨by (with_reducible repeat (first | apply Kd.R_alloc | apply Kd.R_drewN | apply Kd.R_drew)); exact HO281.out⟩, ⟨by (with_reducible repeat (first | apply Kd.R_alloc | apply Kd.R_drewN | apply Kd.R_drew)); exact Kd.R_mono HO_4.out (fun _ hk => ⟨hk.2, hk.1⟩)⟩, ⟨by (with_reducible repeat (first | apply Kd.R_alloc | apply Kd.R_drewN | apply Kd.R_drew)); exact Kd.R_mono HO_5.out (fun _ hk => ⟨hk.2, hk.1⟩)⟩, ⟨bk_⟩, ⟨bz_⟩⟩
    rw [if_neg c15] at H
    exact absurd H (by simp)
   rw [if_neg c12] at H
   have c12b0 : decide (x6_1 < 2) = false := decide_eq_false c12
   clear c12
   have H' := Aside0.mk H
   clear H
   go_wp2
   go_loopg [3, 7] k1 (fun kq v3 v7 w' => ∃ (x3_2 : List Int) (x7_2 : Int), v7 = .int .i64 x7_2 ∧ Aside0 (lockgateref02_One.l1 kq x3_2 t275 x7_2 a0_0 a0_1 a0_2 a0_3 a0_4 = some r) ∧ Aside0 (kq ≤ k1) ∧ Aside0 (Kd.R (Kd.int .u8) 5 w' w.heap.size (fun k_ => some k_ ≠ (v276 : Value).ownBlock) v3 x3_2) ∧ Aside0 (Kd.R (Kd.int .u8) 5 w' w.heap.size (fun k_ => some k_ ≠ (v3 : Value).ownBlock) v276 t275) ∧ Aside0 (w'.heap[gb268]? = some (.cells #[.int .i64 a0_0, .int .i64 a0_1, .int .i64 a0_2, .int .i64 a0_3, .int .i64 a0_4] 40 (0, 0))) ∧ Aside0 (Below w.heap.size w w'))
   case atStart => exact ⟨(x3_1), (0), vs_, H', ⟨Nat.le_refl _⟩, ⟨by (with_reducible repeat (first | apply Kd.R_alloc | apply Kd.R_drewN | apply Kd.R_drew)); exact Kd.R_mono HO_3.out (fun _ hk => hk.2)⟩, ⟨by (with_reducible repeat (first | apply Kd.R_alloc | apply Kd.R_drewN | apply Kd.R_drew)); exact Kd.R_mono HO_5.out (fun _ hk => hk.1)⟩, ⟨bk_⟩, ⟨bz_⟩⟩
   case round =>
    clear H'
    try clear c1
    try clear p2
    try clear q2
    try clear hx2
    try clear c3
    try clear c4
    try clear p6
    try clear c12
    try clear c12b0
    try clear c13
    try clear c13b0
    try clear c14
    try clear c14b0
    try clear c15
    try clear zc10_0
    try clear zc10_1
    try clear zc10_2
    try clear zc10_3
    try clear zc10_4
    try clear zc5_0
    try clear zc5_1
    try clear zc5_2
    try clear zc5_3
    try clear zc5_4
    try clear zc8_0
    try clear zc8_1
    try clear zc8_2
    try clear zc8_3
    try clear zc8_4
    try clear zf10_0
    try clear zf10_1
    try clear zf10_2
    try clear zf10_3
    try clear zf10_4
    try clear zf5_0
    try clear zf5_1
    try clear zf5_2
    try clear zf5_3
    try clear zf5_4
    try clear zf8_0
    try clear zf8_1
    try clear zf8_2
    try clear zf8_3
    try clear zf8_4
    try clear hx278_0
    try clear p2
    try clear p278
    try clear p6
    try clear q278
    obtain ⟨x3_2, x7_2, rfl, HA, HK2, HO_3, HO_5, BK268, HB⟩ := hrel
    cases gk with
    | zero => exact absurd HA.out (by simp [lockgateref02_One.l1])
    | succ k2 =>
     have H := HA.out
     clear HA
     simp only [lockgateref02_One.l1] at H
     by_cases c18 : x7_2 < 4
     ·rw [if_pos c18] at H
      have c18b0 : decide (x7_2 < 4) = true := decide_eq_true c18
      clear c18
      by_cases c19 : 0 ≤ x7_2
      rotate_left
      ·rw [if_neg c19] at H
       exact absurd H (by simp)
      rw [if_pos c19] at H
      have c19b0 : decide (0 ≤ x7_2) = true := decide_eq_true c19
      clear c19
      by_cases c20 : x7_2 < (t275.length : Int)
      rotate_left
      ·rw [if_neg c20] at H
       exact absurd H (by simp)
      rw [if_pos c20] at H
      have c20b0 : decide (x7_2 < (t275.length : Int)) = true := decide_eq_true c20
      clear c20
      by_cases c21 : x3_2.length < 140737488355328
      ·rw [if_pos c21] at H
       have LMc21 := Aside0.mk c21
       clear c21
       obtain ⟨y283, hy283⟩ : ∃ Y : List Int, Y = (x3_2 ++ [rd t275 x7_2]) := ⟨_, rfl⟩
       replace H : (lockgateref02_One.l1 k2 y283 t275 (wrap64 (x7_2 + 1)) a0_0 a0_1 a0_2 a0_3 a0_4) = some r := by first | (rw [hy283]; with_reducible exact H) | (have H2_ := (Option.bind_some _ _).symm.trans H; rw [hy283]; with_reducible exact H2_) | (have H2_ := (Option.bind_some _ _).symm.trans H; with_reducible exact H2_) | with_reducible exact H | (rw [hy283]; exact H) | exact H
       have Ny283 := Aside0.mk hy283
       clear hy283
       have H' := Aside0.mk H
       clear H
       obtain ⟨Ao22, co22, eo22⟩ := Kd.R_slice HO_5.out
       subst eo22
       have p282 : 0 ≤ (x7_2 : Int) := of_decide_eq_true as_
       have q282 : x7_2 < (t275.length : Int) := of_decide_eq_true as_
       obtain ⟨ad282, e282, hx282_0⟩ := Kd.at_int (Kd.R_reads' HO_5.out).2.2 x7_2 p282 q282
       cases e282
       replace p282 := eq_true p282
       replace q282 := eq_true q282
       go_wp2_with (first | ((with_reducible refine gate_builtin (b := .append) (xs := #[.tmp 44, .tmp 49]) rfl ?_); at_builtin; refine Kd.R_append (Kd.int .u8) (w0 := w) w.heap.size rfl (.tmp 44) (.tmp 49) 25 5 (.int .u8 0) 1 rfl Try.underlying25 info5 rfl (by decide) (by omega) u3 x3_2 (rd t275 x7_2) [.int .u8 (rd t275 x7_2)] (fun k_ => some k_ ≠ (.slice (some ad282) t275.length co22 : Value).ownBlock) (fun _ => False) rfl rfl ?aP (fun _ hk => hk.elim) ?aF ?aO ?aB ?aS ?aL ?_; (case aP => exact rfl); (case aB => exact bz_); (case aF => exact (fun k_ hk => Kd.fresh' (Kd.R_lt (ra_ HO_5.out)) k_ hk)); (case aO => exact (ra_ HO_3.out)); (case aS => exact (below_size bz_)); (case aL => have := LMc21.out; omega); intro v284 w23 ho hb hg hat; rw [← Ny283.out] at ho; have n0_ := Aside0.mk (Kd.R_after (ok := (fun _ => True)) (by (with_reducible repeat (first | apply Kd.R_alloc | apply Kd.R_drewN | apply Kd.R_drew)); exact Kd.R_mono HO_5.out (fun _ hk => ⟨trivial, hk⟩)) hg hat); have n1_ := Aside0.mk (blk_grown (g := gb268) (o := .cells #[.int .i64 a0_0, .int .i64 a0_1, .int .i64 a0_2, .int .i64 a0_3, .int .i64 a0_4] 40 (0, 0)) bk_ hg (Kd.R_ne HO_3.out BK268.out (by decide))); have n2_ := Aside0.mk (hb); have n3_ := Aside0.mk (ho); clear HO_5; clear BK268; clear HB; clear HO_3; have HO_5 := n0_; have BK268 := n1_; have HB := n2_; have HO285 := n3_; clear n0_ n1_ n2_ n3_; clear ho hb hg hat))
       go_roundg k2
       case measure => have := HK1.out; have := HK2.out; omega
       case rel => exact ⟨(y283), (wrap64 (x7_2 + 1)), vs_, H', ⟨by have := HK1.out; have := HK2.out; omega⟩, ⟨by (with_reducible repeat (first | apply Kd.R_alloc | apply Kd.R_drewN | apply Kd.R_drew)); exact HO285.out⟩, ⟨by (with_reducible repeat (first | apply Kd.R_alloc | apply Kd.R_drewN | apply Kd.R_drew)); exact Kd.R_mono HO_5.out (fun _ hk => hk.2)⟩, ⟨bk_⟩, ⟨bz_⟩⟩
      rw [if_neg c21] at H
      exact absurd H (by simp)
     rw [if_neg c18] at H
     have c18b0 : decide (x7_2 < 4) = false := decide_eq_false c18
     clear c18
     by_cases c24 : a0_0 = 24
     rotate_left
     ·rw [if_neg c24] at H
      have c24b0 : (a0_0 == 24) = false := beq_eq_false_iff_ne.mpr c24
      have c24b1 : (a0_0 != 24) = true := bne_iff_ne.mpr c24
      obtain rfl := Option.some.inj H
      obtain ⟨zc35_0, zc35_1, zc35_2, zc35_3, zc35_4, zf35_0, zf35_1, zf35_2, zf35_3, zf35_4⟩ := k5_ BK268
      go_wp2
      go_ret
      exact ⟨_, by first | rfl | (simp [errW_none, errW_some] <;> rfl) | (simp [*, errW_none, errW_some] <;> rfl), by (with_reducible repeat (first | apply Kd.R_alloc | apply Kd.R_drewN | apply Kd.R_drew)); exact Kd.R_mono HO_3.out (fun _ hk => trivial), bz_⟩
     rw [if_pos c24] at H
     have c24b0 : (a0_0 == 24) = true := beq_iff_eq.mpr c24
     have c24b1 : (a0_0 != 24) = false := bne_eq_false_iff_eq.mpr c24
     clear c24
     have H' := Aside0.mk H
     clear H
     obtain ⟨zc25_0, zc25_1, zc25_2, zc25_3, zc25_4, zf25_0, zf25_1, zf25_2, zf25_3, zf25_4⟩ := k5_ BK268
     go_wp2
     go_loopg [3, 8] k2 (fun kq v3 v8 w' => ∃ (x3_3 : List Int) (x8_3 : Int), v8 = .int .i64 x8_3 ∧ Aside0 (lockgateref02_One.l2 kq x3_3 t275 x8_3 = some r) ∧ Aside0 (kq ≤ k2) ∧ Aside0 (Kd.R (Kd.int .u8) 5 w' w.heap.size (fun k_ => some k_ ≠ (v276 : Value).ownBlock) v3 x3_3) ∧ Aside0 (Kd.R (Kd.int .u8) 5 w' w.heap.size (fun k_ => some k_ ≠ (v3 : Value).ownBlock) v276 t275) ∧ Aside0 (w'.heap[gb268]? = some (.cells #[.int .i64 a0_0, .int .i64 a0_1, .int .i64 a0_2, .int .i64 a0_3, .int .i64 a0_4] 40 (0, 0))) ∧ Aside0 (Below w.heap.size w w'))
     case atStart => exact ⟨(x3_2), (0), vs_, H', ⟨Nat.le_refl _⟩, ⟨by (with_reducible repeat (first | apply Kd.R_alloc | apply Kd.R_drewN | apply Kd.R_drew)); exact HO_3.out⟩, ⟨by (with_reducible repeat (first | apply Kd.R_alloc | apply Kd.R_drewN | apply Kd.R_drew)); exact HO_5.out⟩, ⟨bk_⟩, ⟨bz_⟩⟩
     case round =>
      clear H'
      try clear c1
      try clear c2
      try clear p2
      try clear q2
      try clear hx2
      try clear c3
      try clear c4
      try clear p6
      try clear c12
      try clear c12b0
      try clear c13
      try clear c13b0
      try clear c14
      try clear c14b0
      try clear c15
      try clear c18
      try clear c18b0
      try clear c19
      try clear c19b0
      try clear c20
      try clear c20b0
      try clear c21
      try clear c24
      try clear c24b0
      try clear c24b1
      try clear zc10_0
      try clear zc10_1
      try clear zc10_2
      try clear zc10_3
      try clear zc10_4
      try clear zc25_0
      try clear zc25_1
      try clear zc25_2
      try clear zc25_3
      try clear zc25_4
      try clear zc5_0
      try clear zc5_1
      try clear zc5_2
      try clear zc5_3
      try clear zc5_4
      try clear zc8_0
      try clear zc8_1
      try clear zc8_2
      try clear zc8_3
      try clear zc8_4
      try clear zf10_0
      try clear zf10_1
      try clear zf10_2
      try clear zf10_3
      try clear zf10_4
      try clear zf25_0
      try clear zf25_1
      try clear zf25_2
      try clear zf25_3
      try clear zf25_4
      try clear zf5_0
      try clear zf5_1
      try clear zf5_2
      try clear zf5_3
      try clear zf5_4
      try clear zf8_0
      try clear zf8_1
      try clear zf8_2
      try clear zf8_3
      try clear zf8_4
      try clear hx278_0
      try clear hx282_0
      try clear p2
      try clear p278
      try clear p282
      try clear p6
      try clear q2
      try clear q278
      try clear q282
      obtain ⟨x3_3, x8_3, rfl, HA, HK3, HO_3, HO_5, BK268, HB⟩ := hrel
      cases gk with
      | zero => exact absurd HA.out (by simp [lockgateref02_One.l2])
      | succ k3 =>
       have H := HA.out
       clear HA
       simp only [lockgateref02_One.l2] at H
       by_cases c26 : x8_3 < 4
       ·rw [if_pos c26] at H
        have c26b0 : decide (x8_3 < 4) = true := decide_eq_true c26
        clear c26
        by_cases c27 : x3_3.length < 140737488355328
        ·rw [if_pos c27] at H
         have LMc27 := Aside0.mk c27
         clear c27
         obtain ⟨y286, hy286⟩ : ∃ Y : List Int, Y = (x3_3 ++ [0]) := ⟨_, rfl⟩
         replace H : (lockgateref02_One.l2 k3 y286 t275 (wrap64 (x8_3 + 1))) = some r := by first | (rw [hy286]; with_reducible exact H) | (have H2_ := (Option.bind_some _ _).symm.trans H; rw [hy286]; with_reducible exact H2_) | (have H2_ := (Option.bind_some _ _).symm.trans H; with_reducible exact H2_) | with_reducible exact H | (rw [hy286]; exact H) | exact H
         have Ny286 := Aside0.mk hy286
         clear hy286
         have H' := Aside0.mk H
         clear H
         go_wp2_with (first | ((with_reducible refine gate_builtin (b := .append) (xs := #[.tmp 59, .tmp 60]) rfl ?_); at_builtin; refine Kd.R_append (Kd.int .u8) (w0 := w) w.heap.size rfl (.tmp 59) (.tmp 60) 25 5 (.int .u8 0) 1 rfl Try.underlying25 info5 rfl (by decide) (by omega) u3 x3_3 0 [.int .u8 0] (fun k_ => some k_ ≠ (v276 : Value).ownBlock) (fun _ => False) rfl rfl ?aP (fun _ hk => hk.elim) ?aF ?aO ?aB ?aS ?aL ?_; (case aP => exact rfl); (case aB => exact bz_); (case aF => exact (fun k_ hk => Kd.fresh' (Kd.R_lt (ra_ HO_5.out)) k_ hk)); (case aO => exact (ra_ HO_3.out)); (case aS => exact (below_size bz_)); (case aL => have := LMc27.out; omega); intro v287 w28 ho hb hg hat; rw [← Ny286.out] at ho; have n0_ := Aside0.mk (Kd.R_after (ok := (fun _ => True)) (by (with_reducible repeat (first | apply Kd.R_alloc | apply Kd.R_drewN | apply Kd.R_drew)); exact Kd.R_mono HO_5.out (fun _ hk => ⟨trivial, hk⟩)) hg hat); have n1_ := Aside0.mk (blk_grown (g := gb268) (o := .cells #[.int .i64 a0_0, .int .i64 a0_1, .int .i64 a0_2, .int .i64 a0_3, .int .i64 a0_4] 40 (0, 0)) bk_ hg (Kd.R_ne HO_3.out BK268.out (by decide))); have n2_ := Aside0.mk (hb); have n3_ := Aside0.mk (ho); clear HO_5; clear BK268; clear HB; clear HO_3; have HO_5 := n0_; have BK268 := n1_; have HB := n2_; have HO288 := n3_; clear n0_ n1_ n2_ n3_; clear ho hb hg hat))
         go_roundg k3
         case measure => have := HK1.out; have := HK2.out; have := HK3.out; omega
         case rel => exact ⟨(y286), (wrap64 (x8_3 + 1)), vs_, H', ⟨by have := HK1.out; have := HK2.out; have := HK3.out; omega⟩, ⟨by (with_reducible repeat (first | apply Kd.R_alloc | apply Kd.R_drewN | apply Kd.R_drew)); exact HO288.out⟩, ⟨by (with_reducible repeat (first | apply Kd.R_alloc | apply Kd.R_drewN | apply Kd.R_drew)); exact Kd.R_mono HO_5.out (fun _ hk => hk.2)⟩, ⟨bk_⟩, ⟨bz_⟩⟩
        rw [if_neg c27] at H
        exact absurd H (by simp)
       rw [if_neg c26] at H
       have c26b0 : decide (x8_3 < 4) = false := decide_eq_false c26
       clear c26
       have H' := Aside0.mk H
       clear H
       go_wp2
       go_loopg [3, 9] k3 (fun kq v3 v9 w' => ∃ (x3_4 : List Int) (x9_4 : Int), v9 = .int .i64 x9_4 ∧ Aside0 (lockgateref02_One.l3 kq x3_4 t275 x9_4 = some r) ∧ Aside0 (kq ≤ k3) ∧ Aside0 (Kd.R (Kd.int .u8) 5 w' w.heap.size (fun k_ => some k_ ≠ (v276 : Value).ownBlock) v3 x3_4) ∧ Aside0 (Kd.R (Kd.int .u8) 5 w' w.heap.size (fun k_ => some k_ ≠ (v3 : Value).ownBlock) v276 t275) ∧ Aside0 (w'.heap[gb268]? = some (.cells #[.int .i64 a0_0, .int .i64 a0_1, .int .i64 a0_2, .int .i64 a0_3, .int .i64 a0_4] 40 (0, 0))) ∧ Aside0 (Below w.heap.size w w'))
       case atStart => exact ⟨(x3_3), (4), vs_, H', ⟨Nat.le_refl _⟩, ⟨by (with_reducible repeat (first | apply Kd.R_alloc | apply Kd.R_drewN | apply Kd.R_drew)); exact HO_3.out⟩, ⟨by (with_reducible repeat (first | apply Kd.R_alloc | apply Kd.R_drewN | apply Kd.R_drew)); exact HO_5.out⟩, ⟨bk_⟩, ⟨bz_⟩⟩
       case round =>
        clear H'
        try clear c1
        try clear c2
        try clear p2
        try clear q2
        try clear hx2
        try clear c3
        try clear c4
        try clear p6
        try clear c12
        try clear c12b0
        try clear c13
        try clear c13b0
        try clear c14
        try clear c14b0
        try clear c15
        try clear c18
        try clear c18b0
        try clear c19
        try clear c19b0
        try clear c20
        try clear c20b0
        try clear c21
        try clear c24
        try clear c24b0
        try clear c24b1
        try clear c26
        try clear c26b0
        try clear c27
        try clear p27
        try clear q27
        try clear hx27
        try clear p28
        try clear q28
        try clear hx28
        try clear zc10_0
        try clear zc10_1
        try clear zc10_2
        try clear zc10_3
        try clear zc10_4
        try clear zc25_0
        try clear zc25_1
        try clear zc25_2
        try clear zc25_3
        try clear zc25_4
        try clear zc5_0
        try clear zc5_1
        try clear zc5_2
        try clear zc5_3
        try clear zc5_4
        try clear zc8_0
        try clear zc8_1
        try clear zc8_2
        try clear zc8_3
        try clear zc8_4
        try clear zf10_0
        try clear zf10_1
        try clear zf10_2
        try clear zf10_3
        try clear zf10_4
        try clear zf25_0
        try clear zf25_1
        try clear zf25_2
        try clear zf25_3
        try clear zf25_4
        try clear zf5_0
        try clear zf5_1
        try clear zf5_2
        try clear zf5_3
        try clear zf5_4
        try clear zf8_0
        try clear zf8_1
        try clear zf8_2
        try clear zf8_3
        try clear zf8_4
        try clear hx278_0
        try clear hx282_0
        try clear p2
        try clear p278
        try clear p282
        try clear p6
        try clear q2
        try clear q278
        try clear q282
        obtain ⟨x3_4, x9_4, rfl, HA, HK4, HO_3, HO_5, BK268, HB⟩ := hrel
        cases gk with
        | zero => exact absurd HA.out (by simp [lockgateref02_One.l3])
        | succ k4 =>
         have H := HA.out
         clear HA
         simp only [lockgateref02_One.l3] at H
         by_cases c29 : x9_4 < 8
         rotate_left
         ·rw [if_neg c29] at H
          have c29b0 : decide (x9_4 < 8) = false := decide_eq_false c29
          clear c29
          obtain rfl := Option.some.inj H
          go_wp2
          go_ret
          exact ⟨_, by first | rfl | (simp [errW_none, errW_some] <;> rfl) | (simp [*, errW_none, errW_some] <;> rfl), by (with_reducible repeat (first | apply Kd.R_alloc | apply Kd.R_drewN | apply Kd.R_drew)); exact Kd.R_mono HO_3.out (fun _ hk => trivial), bz_⟩
         rw [if_pos c29] at H
         have c29b0 : decide (x9_4 < 8) = true := decide_eq_true c29
         clear c29
         by_cases c30 : 0 ≤ x9_4
         rotate_left
         ·rw [if_neg c30] at H
          exact absurd H (by simp)
         rw [if_pos c30] at H
         have c30b0 : decide (0 ≤ x9_4) = true := decide_eq_true c30
         clear c30
         by_cases c31 : x9_4 < (t275.length : Int)
         ·rw [if_pos c31] at H
          have c31b0 : decide (x9_4 < (t275.length : Int)) = true := decide_eq_true c31
          clear c31
          by_cases c32 : x3_4.length < 140737488355328
          ·rw [if_pos c32] at H
           have LMc32 := Aside0.mk c32
           clear c32
           obtain ⟨y290, hy290⟩ : ∃ Y : List Int, Y = (x3_4 ++ [rd t275 x9_4]) := ⟨_, rfl⟩
           replace H : (lockgateref02_One.l3 k4 y290 t275 (wrap64 (x9_4 + 1))) = some r := by first | (rw [hy290]; with_reducible exact H) | (have H2_ := (Option.bind_some _ _).symm.trans H; rw [hy290]; with_reducible exact H2_) | (have H2_ := (Option.bind_some _ _).symm.trans H; with_reducible exact H2_) | with_reducible exact H | (rw [hy290]; exact H) | exact H
           have Ny290 := Aside0.mk hy290
           clear hy290
           have H' := Aside0.mk H
           clear H
           obtain ⟨Ao33, co33, eo33⟩ := Kd.R_slice HO_5.out
           subst eo33
           have p289 : 0 ≤ (x9_4 : Int) := of_decide_eq_true as_
           have q289 : x9_4 < (t275.length : Int) := of_decide_eq_true as_
           obtain ⟨ad289, e289, hx289_0⟩ := Kd.at_int (Kd.R_reads' HO_5.out).2.2 x9_4 p289 q289
           cases e289
           replace p289 := eq_true p289
           replace q289 := eq_true q289
           go_wp2_with (first | ((with_reducible refine gate_builtin (b := .append) (xs := #[.tmp 66, .tmp 71]) rfl ?_); at_builtin; refine Kd.R_append (Kd.int .u8) (w0 := w) w.heap.size rfl (.tmp 66) (.tmp 71) 25 5 (.int .u8 0) 1 rfl Try.underlying25 info5 rfl (by decide) (by omega) u3 x3_4 (rd t275 x9_4) [.int .u8 (rd t275 x9_4)] (fun k_ => some k_ ≠ (.slice (some ad289) t275.length co33 : Value).ownBlock) (fun _ => False) rfl rfl ?aP (fun _ hk => hk.elim) ?aF ?aO ?aB ?aS ?aL ?_; (case aP => exact rfl); (case aB => exact bz_); (case aF => exact (fun k_ hk => Kd.fresh' (Kd.R_lt (ra_ HO_5.out)) k_ hk)); (case aO => exact (ra_ HO_3.out)); (case aS => exact (below_size bz_)); (case aL => have := LMc32.out; omega); intro v291 w34 ho hb hg hat; rw [← Ny290.out] at ho; have n0_ := Aside0.mk (Kd.R_after (ok := (fun _ => True)) (by (with_reducible repeat (first | apply Kd.R_alloc | apply Kd.R_drewN | apply Kd.R_drew)); exact Kd.R_mono HO_5.out (fun _ hk => ⟨trivial, hk⟩)) hg hat); have n1_ := Aside0.mk (blk_grown (g := gb268) (o := .cells #[.int .i64 a0_0, .int .i64 a0_1, .int .i64 a0_2, .int .i64 a0_3, .int .i64 a0_4] 40 (0, 0)) bk_ hg (Kd.R_ne HO_3.out BK268.out (by decide))); have n2_ := Aside0.mk (hb); have n3_ := Aside0.mk (ho); clear HO_5; clear BK268; clear HB; clear HO_3; have HO_5 := n0_; have BK268 := n1_; have HB := n2_; have HO292 := n3_; clear n0_ n1_ n2_ n3_; clear ho hb hg hat))
           go_roundg k4
           case measure => have := HK1.out; have := HK2.out; have := HK3.out; have := HK4.out; omega
           case rel => exact ⟨(y290), (wrap64 (x9_4 + 1)), vs_, H', ⟨by have := HK1.out; have := HK2.out; have := HK3.out; have := HK4.out; omega⟩, ⟨by (with_reducible repeat (first | apply Kd.R_alloc | apply Kd.R_drewN | apply Kd.R_drew)); exact HO292.out⟩, ⟨by (with_reducible repeat (first | apply Kd.R_alloc | apply Kd.R_drewN | apply Kd.R_drew)); exact Kd.R_mono HO_5.out (fun _ hk => hk.2)⟩, ⟨bk_⟩, ⟨bz_⟩⟩
          rw [if_neg c32] at H
          exact absurd H (by simp)
         rw [if_neg c31] at H
         exact absurd H (by simp)
end Go.Proofs.Yticijjonimiooaa.PA
