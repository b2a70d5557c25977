-- PRINTED by print.py (a twelfth state) out of the translation. Not trusted: Lean checks it.
import Derived.Test.YtnpbhippkcikoaaWTab
import Derived.Test.YtnpbhippkcikoaaPA0
import Derived.Test.YtnpbhippkcikoaaSq
import Derived.Test.YtnpbhippkcikoaaPA1
import Derived.Test.YtnpbhippkcikoaaPA3
import Derived.Test.YtnpbhippkcikoaaPA4
import Derived.Test.YtnpbhippkcikoaaPA7
import Derived.Test.YtnpbhippkcikoaaPA20
namespace Go.Proofs.Ytnpbhippkcikoaa.PA
open Go.RowKit Go.Proofs.YtnpbhippkcikoaaW.PrintWords Go.Proofs.YtnpbhippkcikoaaW.PrintLast Go.Proofs.YtnpbhippkcikoaaW.PrintMore
attribute [local go_sem] max2_int min2_int max_two min_two max_three min_three max_four min_four   -- for this text's walks alone
set_option linter.unusedVariables false
set_option linter.unusedSimpArgs false

attribute [local go_sem high] eqA24
/-! ### lockgatelaw14_ValuePointers: function 5 -/
mutual
def lockgatelaw14_ValuePointers.j0 : Nat → Int → Bool → Bool → Int → Int → Int → Int → Int → Int → Int → Int → Int → Option (Bool)
 | 0, _, _, _, _, _, _, _, _, _, _, _, _ => none
 | k + 1, x0, x1, x33, x297000, x297001, x297002, x298000, x298001, x298002, x303000, x303001, x303002 => if x33 = true then (if (x303000 == x298000 && (x303001 == x298001 && (x303002 == x298002))) = true then (if x298000 = 0 then (some false) else ((lockgatelaw14_works.f k).bind fun t304 => (some t304))) else (if x298000 = 1 then ((value_Num.f x298001).bind fun bt305 => (if (x303000 == bt305.1 && (x303001 == bt305.2.1 && (x303002 == bt305.2.2))) = true then (if x298000 = 0 then (some false) else ((lockgatelaw14_works.f k).bind fun t308 => (some t308))) else (some false))) else (some false))) else (if x0 = 11 then (if x0 = 8 then (lockgatelaw14_ValuePointers.j1 k x0 x1 true x297000 x297001 x297002 x298000 x298001 x298002 x303000 x303001 x303002) else (lockgatelaw14_ValuePointers.j1 k x0 x1 (x298000 == 1) x297000 x297001 x297002 x298000 x298001 x298002 x303000 x303001 x303002)) else (if x297000 = 1 then (if x0 = 8 then (lockgatelaw14_ValuePointers.j1 k x0 x1 true x297000 x297001 x297002 x298000 x298001 x298002 x303000 x303001 x303002) else (lockgatelaw14_ValuePointers.j1 k x0 x1 (x298000 == 1) x297000 x297001 x297002 x298000 x298001 x298002 x303000 x303001 x303002)) else (lockgatelaw14_ValuePointers.j1 k x0 x1 false x297000 x297001 x297002 x298000 x298001 x298002 x303000 x303001 x303002)))
def lockgatelaw14_ValuePointers.j1 : Nat → Int → Bool → Bool → Int → Int → Int → Int → Int → Int → Int → Int → Int → Option (Bool)
 | 0, _, _, _, _, _, _, _, _, _, _, _, _ => none
 | k + 1, x0, x1, x11, x297000, x297001, x297002, x298000, x298001, x298002, x303000, x303001, x303002 => if x11 = true then (if x303000 = 1 then (if x303002 = 0 then ((lockgatelaw14_works.f k).bind fun t309 => (some t309)) else (some false)) else (some false)) else (if x303000 = x297000 then (if x303002 = x297002 then ((value_Places.f x297000 x297001 x297002).bind fun t310 => (if t310 = true then (if x1 = true then (if x0 = 0 then ((lockgatelaw14_works.f k).bind fun t311 => (some t311)) else (if x0 = 1 then ((lockgatelaw14_works.f k).bind fun t312 => (some t312)) else (some false))) else (some false)) else (if x303000 = x298000 then (if x303002 = x298002 then ((value_Places.f x298000 x298001 x298002).bind fun t313 => (if t313 = true then (if x1 = true then (if x0 = 0 then ((lockgatelaw14_works.f k).bind fun t314 => (some t314)) else (if x0 = 1 then ((lockgatelaw14_works.f k).bind fun t315 => (some t315)) else (some false))) else (some false)) else (some false))) else (some false)) else (some false)))) else (if x303000 = x298000 then (if x303002 = x298002 then ((value_Places.f x298000 x298001 x298002).bind fun t316 => (if t316 = true then (if x1 = true then (if x0 = 0 then ((lockgatelaw14_works.f k).bind fun t317 => (some t317)) else (if x0 = 1 then ((lockgatelaw14_works.f k).bind fun t318 => (some t318)) else (some false))) else (some false)) else (some false))) else (some false)) else (some false))) else (if x303000 = x298000 then (if x303002 = x298002 then ((value_Places.f x298000 x298001 x298002).bind fun t319 => (if t319 = true then (if x1 = true then (if x0 = 0 then ((lockgatelaw14_works.f k).bind fun t320 => (some t320)) else (if x0 = 1 then ((lockgatelaw14_works.f k).bind fun t321 => (some t321)) else (some false))) else (some false)) else (some false))) else (some false)) else (some false)))
end
def lockgatelaw14_ValuePointers.f (k : Nat) (a0 : Int) (a1 : Bool) (a2_0 : Int) (a2_1 : Int) (a2_2 : Int) (a3_0 : Int) (a3_1 : Int) (a3_2 : Int) : Option (Bool) := (value_Alu.f k a0 a1 a2_0 a2_1 a2_2 a3_0 a3_1 a3_2).bind fun bt298 => (if bt298.2.2.2 = 0 then (if a0 = 11 then (lockgatelaw14_ValuePointers.j0 k a0 a1 a1 a2_0 a2_1 a2_2 a3_0 a3_1 a3_2 bt298.1 bt298.2.1 bt298.2.2.1) else (lockgatelaw14_ValuePointers.j0 k a0 a1 false a2_0 a2_1 a2_2 a3_0 a3_1 a3_2 bt298.1 bt298.2.1 bt298.2.2.1)) else (if (bt298.1 == 0 && (bt298.2.1 == 0 && (bt298.2.2.1 == 0))) = true then ((lockgatelaw14_works.f k).bind fun t303 => (some t303)) else (some false)))
theorem lockgatelaw14_ValuePointers.mono_l : ∀ k, (∀ y0 y1 y2 y3 y4 y5 y6 y7 y8 y9 y10 y11, LeO (lockgatelaw14_ValuePointers.j0 k y0 y1 y2 y3 y4 y5 y6 y7 y8 y9 y10 y11) (lockgatelaw14_ValuePointers.j0 (k + 1) y0 y1 y2 y3 y4 y5 y6 y7 y8 y9 y10 y11)) ∧ (∀ y0 y1 y2 y3 y4 y5 y6 y7 y8 y9 y10 y11, LeO (lockgatelaw14_ValuePointers.j1 k y0 y1 y2 y3 y4 y5 y6 y7 y8 y9 y10 y11) (lockgatelaw14_ValuePointers.j1 (k + 1) y0 y1 y2 y3 y4 y5 y6 y7 y8 y9 y10 y11))
 | 0 => ⟨fun _ _ _ _ _ _ _ _ _ _ _ _ r h => by simp [lockgatelaw14_ValuePointers.j0] at h, fun _ _ _ _ _ _ _ _ _ _ _ _ r h => by simp [lockgatelaw14_ValuePointers.j1] at h⟩
 | k + 1 => by
  obtain ⟨ih0, ih1⟩ := lockgatelaw14_ValuePointers.mono_l k
  refine ⟨?_, ?_⟩
  ·intro y0 y1 y2 y3 y4 y5 y6 y7 y8 y9 y10 y11
   unfold lockgatelaw14_ValuePointers.j0
   repeat' first
   | (with_reducible exact ih0 _ _ _ _ _ _ _ _ _ _ _ _)
   | (with_reducible exact ih1 _ _ _ _ _ _ _ _ _ _ _ _)
   | (with_reducible exact lockgatelaw14_works.mono _)
   | (with_reducible exact value_Alu.mono _ _ _ _ _ _ _ _ _)
   | (with_reducible exact LeO.refl _)
   | (with_reducible exact LeO.none _)
   | (with_reducible refine LeO.ite ?_ ?_)
   | (with_reducible refine LeO.bind ?_ (fun _ => ?_))
   | exact ih0 _ _ _ _ _ _ _ _ _ _ _ _
   | exact ih1 _ _ _ _ _ _ _ _ _ _ _ _
   | exact lockgatelaw14_works.mono _
   | exact value_Alu.mono _ _ _ _ _ _ _ _ _
   | exact LeO.none _
   | refine LeO.ite ?_ ?_
   | refine LeO.bind ?_ (fun _ => ?_)
  ·intro y0 y1 y2 y3 y4 y5 y6 y7 y8 y9 y10 y11
   unfold lockgatelaw14_ValuePointers.j1
   repeat' first
   | (with_reducible exact ih0 _ _ _ _ _ _ _ _ _ _ _ _)
   | (with_reducible exact ih1 _ _ _ _ _ _ _ _ _ _ _ _)
   | (with_reducible exact lockgatelaw14_works.mono _)
   | (with_reducible exact value_Alu.mono _ _ _ _ _ _ _ _ _)
   | (with_reducible exact LeO.refl _)
   | (with_reducible exact LeO.none _)
   | (with_reducible refine LeO.ite ?_ ?_)
   | (with_reducible refine LeO.bind ?_ (fun _ => ?_))
   | exact ih0 _ _ _ _ _ _ _ _ _ _ _ _
   | exact ih1 _ _ _ _ _ _ _ _ _ _ _ _
   | exact lockgatelaw14_works.mono _
   | exact value_Alu.mono _ _ _ _ _ _ _ _ _
   | exact LeO.none _
   | refine LeO.ite ?_ ?_
   | refine LeO.bind ?_ (fun _ => ?_)
theorem lockgatelaw14_ValuePointers.mono : ∀ a0 a1 a2 a3 a4 a5 a6 a7 k, LeO (lockgatelaw14_ValuePointers.f k a0 a1 a2 a3 a4 a5 a6 a7) (lockgatelaw14_ValuePointers.f (k + 1) a0 a1 a2 a3 a4 a5 a6 a7) := by
 intro a0 a1 a2 a3 a4 a5 a6 a7 k
 obtain ⟨ih0, ih1⟩ := lockgatelaw14_ValuePointers.mono_l k
 unfold lockgatelaw14_ValuePointers.f
 repeat' first
  | (with_reducible exact ih0 _ _ _ _ _ _ _ _ _ _ _ _)
  | (with_reducible exact ih1 _ _ _ _ _ _ _ _ _ _ _ _)
  | (with_reducible exact lockgatelaw14_works.mono _)
  | (with_reducible exact value_Alu.mono _ _ _ _ _ _ _ _ _)
  | (with_reducible exact LeO.refl _)
  | (with_reducible exact LeO.none _)
  | (with_reducible refine LeO.ite ?_ ?_)
  | (with_reducible refine LeO.bind ?_ (fun _ => ?_))
  | exact ih0 _ _ _ _ _ _ _ _ _ _ _ _
  | exact ih1 _ _ _ _ _ _ _ _ _ _ _ _
  | exact lockgatelaw14_works.mono _
  | exact value_Alu.mono _ _ _ _ _ _ _ _ _
  | exact LeO.none _
  | refine LeO.ite ?_ ?_
  | refine LeO.bind ?_ (fun _ => ?_)
def lockgatelaw14_ValuePointers.T5 : Bool × List (List Nat × List Nat) := (true, [([], []), ([], []), ([0, 1], [0, 1]), ([2], [2]), ([3], [3]), ([4, 3], [3, 4]), ([5, 3], [3, 5]), ([6, 3, 3], [3, 6]), ([7], [7]), ([7], [7]), ([9, 7], [7, 9]), ([10, 7, 7], [7, 10]), ([8, 11, 7], [7, 8, 11]), ([7, 12, 3], [3, 7, 12]), ([3, 13], [3, 13]), ([14, 11], [14]), ([15], [15]), ([16, 15], [15, 16]), ([17, 15], [15, 17]), ([15, 18], [15, 18]), ([19, 15], [19]), ([20, 20], [20]), ([20, 21], [20, 21]), ([22, 21, 0, 1, 2, 3, 4, 5, 6, 7, 8, 9, 10, 11, 12, 13, 14, 15, 16, 17, 18, 19, 20, 21, 22], [22])])
def lockgatelaw14_ValuePointers.B5 : List Nat := [0, 0, 3, 7, 15, 31, 63, 127, 255, 255, 767, 1791, 4095, 8191, 16383, 32767, 65535, 131071, 262143, 524287, 1048575, 2097151, 4194303, 8388607]
theorem lockgatelaw14_ValuePointers.tab5 : rtab .any (opsOf Try.f5 5) = lockgatelaw14_ValuePointers.T5 := by kernel_rfl
theorem lockgatelaw14_ValuePointers.bits5 : waitsOk lockgatelaw14_ValuePointers.T5.2 lockgatelaw14_ValuePointers.B5 = true := by kernel_rfl
set_option maxHeartbeats 8000000 in
set_option maxRecDepth 100000 in
theorem lockgatelaw14_ValuePointers.calls (k : Nat) (a0 : Int) (a1 : Bool) (a2_0 : Int) (a2_1 : Int) (a2_2 : Int) (a3_0 : Int) (a3_1 : Int) (a3_2 : Int) (r : Bool) (w : World) (HRT : Aside0 (r = true)) (h : lockgatelaw14_ValuePointers.f k a0 a1 a2_0 a2_1 a2_2 a3_0 a3_1 a3_2 = some r) :
 Calls Try.prog 5 #[.int .i64 a0, .bool a1, .agg #[.int .i64 a2_0, .int .u64 a2_1, .int .i64 a2_2], .agg #[.int .i64 a3_0, .int .u64 a3_1, .int .i64 a3_2]] w fun e w' => e = .returned (.bool r) ∧ Below w.heap.size w w' := by
 have hu24 := Try.underlying24
 have HB := Aside0.mk (Below.refl w.heap.size w)
 have H : ((value_Alu.f k a0 a1 a2_0 a2_1 a2_2 a3_0 a3_1 a3_2).bind fun bt298 => (if bt298.2.2.2 = 0 then (if a0 = 11 then (lockgatelaw14_ValuePointers.j0 k a0 a1 a1 a2_0 a2_1 a2_2 a3_0 a3_1 a3_2 bt298.1 bt298.2.1 bt298.2.2.1) else (lockgatelaw14_ValuePointers.j0 k a0 a1 false a2_0 a2_1 a2_2 a3_0 a3_1 a3_2 bt298.1 bt298.2.1 bt298.2.2.1)) else (if (bt298.1 == 0 && (bt298.2.1 == 0 && (bt298.2.2.1 == 0))) = true then ((lockgatelaw14_works.f k).bind fun t303 => (some t303)) else (some false)))) = some r := h
 clear h
 replace H := Option.bind_eq_some_iff.mp H
 obtain ⟨⟨t298, t299, t300, t301⟩, A50, H⟩ := H
 replace H : (if t301 = 0 then (if a0 = 11 then (lockgatelaw14_ValuePointers.j0 k a0 a1 a1 a2_0 a2_1 a2_2 a3_0 a3_1 a3_2 t298 t299 t300) else (lockgatelaw14_ValuePointers.j0 k a0 a1 false a2_0 a2_1 a2_2 a3_0 a3_1 a3_2 t298 t299 t300)) else (if (t298 == 0 && (t299 == 0 && (t300 == 0))) = true then ((lockgatelaw14_works.f k).bind fun t303 => (some t303)) else (some false))) = some r := H
 have A5 := Aside0.mk A50
 clear A50
 by_cases c6 : t301 = 0
 ·rw [if_pos c6] at H
  have c6b0 : (t301 == 0) = true := beq_iff_eq.mpr c6
  have c6b1 : (t301 != 0) = false := bne_eq_false_iff_eq.mpr c6
  clear c6
  have HC7 := Aside0.mk H
  clear H
  go_enter Try.func5, Try.ntmps5
  go_upto_region 4 with (first | ((with_reducible refine gate_dst (N := 6) rfl ?_); refine bx_ 6 #[.int .i64 a2_0, .int .u64 a2_1, .int .i64 a2_2] 24 ?_; intro gb296 hg w8 BK296 hb; have GW296 := bg_ hg; have GE296 := GW296; replace HB := bl_ hb; clear hb hg) | ((with_reducible refine gate_dst (N := 7) rfl ?_); refine bx_ 7 #[.int .i64 a3_0, .int .u64 a3_1, .int .i64 a3_2] 24 ?_; intro gb297 hg w9 BK297 hb; have GW297 := bg_ hg; have GE297 := GW297; have NB296_297 := bm_ hg BK296; have NB297_296 := bn_ hg BK296; replace BK296 := bb_ hb BK296; replace HB := bl_ hb; clear hb hg; have hnb10 := NB296_297.out; have hnc10 := NB297_296.out; obtain ⟨zc11_0, zc11_1, zc11_2, zf11_0, zf11_1, zf11_2⟩ := k3_ BK296; obtain ⟨zc12_0, zc12_1, zc12_2, zf12_0, zf12_1, zf12_2⟩ := k3_ BK297) | ((with_reducible refine gate_callee (f := 11) rfl ?_); refine gM_ 18 Try.func11 (value_Alu.calls k a0 a1 a2_0 a2_1 a2_2 a3_0 a3_1 a3_2 t298 t299 t300 t301 _ A5.out) ?_; intro w13 hb; replace BK296 := bb_ hb BK296; replace BK297 := bb_ hb BK297; replace HB := bl_ hb; (try clear hb); (try clear hb2); (try clear hk); (try clear hi)) | ((with_reducible refine gate_dst (N := 9) rfl ?_); refine bx_ 9 #[.int .i64 0, .int .u64 0, .int .i64 0] 24 ?_; intro gb302 hg w14 BK302 hb; have GW302 := bg_ hg; have GE302 := GW302; have NB296_302 := bm_ hg BK296; have NB302_296 := bn_ hg BK296; have NB297_302 := bm_ hg BK297; have NB302_297 := bn_ hg BK297; replace BK296 := bb_ hb BK296; replace BK297 := bb_ hb BK297; replace HB := bl_ hb; clear hb hg; have hnb15 := NB302_296.out; have hnc15 := NB296_302.out; have hnb16 := NB302_297.out; have hnc16 := NB297_302.out; obtain ⟨zc17_0, zc17_1, zc17_2, zf17_0, zf17_1, zf17_2⟩ := k3_ BK302))
  (try simp only [Act.put, s1_, s2_, s3_])
  go_cut [33] (fun v33 wc => ∃ (kq : Nat) (x33_6 : Bool), v33 = .bool x33_6 ∧ Aside0 (lockgatelaw14_ValuePointers.j0 kq a0 a1 x33_6 a2_0 a2_1 a2_2 a3_0 a3_1 a3_2 t298 t299 t300 = some r) ∧ Aside0 (kq ≤ k) ∧ Aside0 (wc.heap[gb296]? = some (.cells #[.int .i64 a2_0, .int .u64 a2_1, .int .i64 a2_2] 24 (0, 0))) ∧ Aside0 (wc.heap[gb297]? = some (.cells #[.int .i64 a3_0, .int .u64 a3_1, .int .i64 a3_2] 24 (0, 0))) ∧ Aside0 (wc.heap[gb302]? = some (.cells #[.int .i64 t298, .int .u64 t299, .int .i64 t300] 24 (0, 0))) ∧ Aside0 (Below w.heap.size w wc))
  case first =>
   have H := HC7.out
   clear HC7
   by_cases c18 : a0 = 11
   ·rw [if_pos c18] at H
    have c18b0 : (a0 == 11) = true := beq_iff_eq.mpr c18
    have c18b1 : (a0 != 11) = false := bne_eq_false_iff_eq.mpr c18
    clear c18
    (first | rw [c18b0] | (simp only [i64_w, i32_w]; rw [c18b0]) | skip)
    have H' := Aside0.mk H
    clear H
    go_wp2
    go_meet
    case rel => exact ⟨_, (a1), (by first | rfl | (simp; done) | (simp [*]; done)), H', ⟨by first | omega | exact Nat.le_refl _⟩, ⟨by (with_reducible repeat (first | apply bN_ | apply bD_ | apply bA_)); refine blk_far ?_ NB296_302.out _; (with_reducible repeat (first | apply bN_ | apply bD_ | apply bA_)); refine blk_far ?_ NB296_302.out _; (with_reducible repeat (first | apply bN_ | apply bD_ | apply bA_)); refine blk_far ?_ NB296_302.out _; exact bk_⟩, ⟨by (with_reducible repeat (first | apply bN_ | apply bD_ | apply bA_)); refine blk_far ?_ NB297_302.out _; (with_reducible repeat (first | apply bN_ | apply bD_ | apply bA_)); refine blk_far ?_ NB297_302.out _; (with_reducible repeat (first | apply bN_ | apply bD_ | apply bA_)); refine blk_far ?_ NB297_302.out _; exact bk_⟩, ⟨by (with_reducible repeat (first | apply bN_ | apply bD_ | apply bA_)); refine blk_put (cs := #[.int .i64 t298, .int .u64 t299, .int .i64 0]) ?_ 2 _ rfl; (with_reducible repeat (first | apply bN_ | apply bD_ | apply bA_)); refine blk_put (cs := #[.int .i64 t298, .int .u64 0, .int .i64 0]) ?_ 1 _ rfl; (with_reducible repeat (first | apply bN_ | apply bD_ | apply bA_)); refine blk_put (cs := #[.int .i64 0, .int .u64 0, .int .i64 0]) ?_ 0 _ rfl; exact bk_⟩, ⟨bz_⟩⟩
   ·rw [if_neg c18] at H
    have c18b0 : (a0 == 11) = false := beq_eq_false_iff_ne.mpr c18
    have c18b1 : (a0 != 11) = true := bne_iff_ne.mpr c18
    (first | rw [c18b0] | (simp only [i64_w, i32_w]; rw [c18b0]) | skip)
    have H' := Aside0.mk H
    clear H
    go_wp2
    go_meet
    case rel => exact ⟨_, (false), (by first | rfl | (simp; done) | (simp [*]; done)), H', ⟨by first | omega | exact Nat.le_refl _⟩, ⟨by (with_reducible repeat (first | apply bN_ | apply bD_ | apply bA_)); refine blk_far ?_ NB296_302.out _; (with_reducible repeat (first | apply bN_ | apply bD_ | apply bA_)); refine blk_far ?_ NB296_302.out _; (with_reducible repeat (first | apply bN_ | apply bD_ | apply bA_)); refine blk_far ?_ NB296_302.out _; exact bk_⟩, ⟨by (with_reducible repeat (first | apply bN_ | apply bD_ | apply bA_)); refine blk_far ?_ NB297_302.out _; (with_reducible repeat (first | apply bN_ | apply bD_ | apply bA_)); refine blk_far ?_ NB297_302.out _; (with_reducible repeat (first | apply bN_ | apply bD_ | apply bA_)); refine blk_far ?_ NB297_302.out _; exact bk_⟩, ⟨by (with_reducible repeat (first | apply bN_ | apply bD_ | apply bA_)); refine blk_put (cs := #[.int .i64 t298, .int .u64 t299, .int .i64 0]) ?_ 2 _ rfl; (with_reducible repeat (first | apply bN_ | apply bD_ | apply bA_)); refine blk_put (cs := #[.int .i64 t298, .int .u64 0, .int .i64 0]) ?_ 1 _ rfl; (with_reducible repeat (first | apply bN_ | apply bD_ | apply bA_)); refine blk_put (cs := #[.int .i64 0, .int .u64 0, .int .i64 0]) ?_ 0 _ rfl; exact bk_⟩, ⟨bz_⟩⟩
  case rest =>
   clear HC7
   try clear c1
   try clear p2
   try clear c5
   try clear c6
   try clear c6b0
   try clear c6b1
   try clear c10
   try clear c11
   try clear c15
   try clear c16
   try clear c18
   try clear c18b0
   try clear c18b1
   try clear zc11_0
   try clear zc11_1
   try clear zc11_2
   try clear zc12_0
   try clear zc12_1
   try clear zc12_2
   try clear zc17_0
   try clear zc17_1
   try clear zc17_2
   try clear zf11_0
   try clear zf11_1
   try clear zf11_2
   try clear zf12_0
   try clear zf12_1
   try clear zf12_2
   try clear zf17_0
   try clear zf17_1
   try clear zf17_2
   obtain ⟨kq, x33_6, rfl, HA, HJ6, BK296, BK297, BK302, HB⟩ := hcut
   cases kq with
   | zero => exact absurd HA.out (by simp [lockgatelaw14_ValuePointers.j0])
   | succ kj6 =>
    have H := HA.out
    clear HA
    simp only [lockgatelaw14_ValuePointers.j0] at H
    by_cases c19 : x33_6 = true
    ·subst c19
     have H1 : (if (t298 == a3_0 && (t299 == a3_1 && (t300 == a3_2))) = true then (if a3_0 = 0 then (some false) else ((lockgatelaw14_works.f kj6).bind fun t304 => (some t304))) else (if a3_0 = 1 then ((value_Num.f a3_1).bind fun bt305 => (if (t298 == bt305.1 && (t299 == bt305.2.1 && (t300 == bt305.2.2))) = true then (if a3_0 = 0 then (some false) else ((lockgatelaw14_works.f kj6).bind fun t308 => (some t308))) else (some false))) else (some false))) = some r := by rw [if_pos rfl] at H; exact H
     clear H
     have H := H1
     clear H1
     by_cases c20 : (t298 == a3_0 && (t299 == a3_1 && (t300 == a3_2))) = true
     ·rw [if_pos c20] at H
      have c20b0 : (t298 == a3_0 && (t299 == a3_1 && (t300 == a3_2))) = true := c20
      (try (have c20b1 : decide (t298 = a3_0 && (t299 == a3_1 && (t300 == a3_2))) = true := by simpa using c20))
      (try (have c20b2 : (t298 == a3_0 && (t299 == a3_1 && (t300 == a3_2))) = true := by simpa using c20))
      clear c20
      by_cases c21 : a3_0 = 0
      ·rw [if_pos c21] at H
       have c21b0 : (a3_0 == 0) = true := beq_iff_eq.mpr c21
       have c21b1 : (a3_0 != 0) = false := bne_eq_false_iff_eq.mpr c21
       clear c21
       exact absurd ((Option.some.inj H).trans HRT.out) (by decide)
      ·rw [if_neg c21] at H
       have c21b0 : (a3_0 == 0) = false := beq_eq_false_iff_ne.mpr c21
       have c21b1 : (a3_0 != 0) = true := bne_iff_ne.mpr c21
       replace H := Option.bind_eq_some_iff.mp H
       obtain ⟨t304, A220, H⟩ := H
       replace H : (some t304) = some r := H
       have A22 := Aside0.mk A220
       clear A220
       obtain rfl := Option.some.inj H
       try go_wp2
       replace BK296 := Aside0.mk (blk_drew BK296.out)
       replace BK297 := Aside0.mk (blk_drew BK297.out)
       replace BK302 := Aside0.mk (blk_drew BK302.out)
       replace HB := Aside0.mk (below_drew1 HB.out)
       refine start_ (n := 24) (S := fun w' => w'.cell? ⟨gb302, 0, none⟩ = some (.int .i64 t298) ∧ w'.cell? ⟨gb302, 1, none⟩ = some (.int .u64 t299) ∧ w'.cell? ⟨gb302, 2, none⟩ = some (.int .i64 t300) ∧ w'.cell? ⟨gb297, 0, none⟩ = some (.int .i64 a3_0) ∧ w'.cell? ⟨gb297, 1, none⟩ = some (.int .u64 a3_1) ∧ w'.cell? ⟨gb297, 2, none⟩ = some (.int .i64 a3_2)) (ds := []) #[n_,n_,n_,n_,n_,n_,n_,n_,n_,n_,n_,n_,n_,n_,n_,n_,n_,n_,n_,n_,n_,n_,n_,n_] (by kernel_rfl) rfl rfl ⟨c0_ BK302, c1_ BK302, c2_ BK302, c0_ BK297, c1_ BK297, c2_ BK297⟩ (fun hHeld => ?_); refine with_tabW lockgatelaw14_ValuePointers.tab5 lockgatelaw14_ValuePointers.bits5 (fun HT_ HW_ => ?_)
       generalize wc.drew = w23 at BK296 BK297 BK302 HB hHeld ⊢
       refine tq1_ 0 34 #[y_,n_,n_,n_,n_,n_,n_,n_,n_,n_,n_,n_,n_,n_,n_,n_,n_,n_,n_,n_,n_,n_,n_,n_] hHeld ?_
       refine tq1_ 1 35 #[y_,y_,n_,n_,n_,n_,n_,n_,n_,n_,n_,n_,n_,n_,n_,n_,n_,n_,n_,n_,n_,n_,n_,n_] hHeld ?_
       refine pq_ 2 36 #[y_,y_,y_,n_,n_,n_,n_,n_,n_,n_,n_,n_,n_,n_,n_,n_,n_,n_,n_,n_,n_,n_,n_,n_] ?_
       refine pq_ 3 37 #[y_,y_,y_,y_,n_,n_,n_,n_,n_,n_,n_,n_,n_,n_,n_,n_,n_,n_,n_,n_,n_,n_,n_,n_] ?_
       refine pu_ 4 38 #[y_,y_,y_,y_,y_,n_,n_,n_,n_,n_,n_,n_,n_,n_,n_,n_,n_,n_,n_,n_,n_,n_,n_,n_] ?_
       refine pu_ 5 39 #[y_,y_,y_,y_,y_,y_,n_,n_,n_,n_,n_,n_,n_,n_,n_,n_,n_,n_,n_,n_,n_,n_,n_,n_] ?_
       refine pu_ 6 40 #[y_,y_,y_,y_,y_,y_,y_,n_,n_,n_,n_,n_,n_,n_,n_,n_,n_,n_,n_,n_,n_,n_,n_,n_] ?_
       refine pu_ 7 41 #[y_,y_,y_,y_,y_,y_,y_,y_,n_,n_,n_,n_,n_,n_,n_,n_,n_,n_,n_,n_,n_,n_,n_,n_] ?_
       refine pu_ 8 42 #[y_,y_,y_,y_,y_,y_,y_,y_,y_,n_,n_,n_,n_,n_,n_,n_,n_,n_,n_,n_,n_,n_,n_,n_] ?_
       refine pu_ 9 43 #[y_,y_,y_,y_,y_,y_,y_,y_,y_,y_,n_,n_,n_,n_,n_,n_,n_,n_,n_,n_,n_,n_,n_,n_] ?_
       refine pu_ 10 44 #[y_,y_,y_,y_,y_,y_,y_,y_,y_,y_,y_,n_,n_,n_,n_,n_,n_,n_,n_,n_,n_,n_,n_,n_] ?_
       refine pu_ 11 45 #[y_,y_,y_,y_,y_,y_,y_,y_,y_,y_,y_,y_,n_,n_,n_,n_,n_,n_,n_,n_,n_,n_,n_,n_] ?_
       refine pu_ 12 46 #[y_,y_,y_,y_,y_,y_,y_,y_,y_,y_,y_,y_,y_,n_,n_,n_,n_,n_,n_,n_,n_,n_,n_,n_] ?_
       refine pu_ 13 47 #[y_,y_,y_,y_,y_,y_,y_,y_,y_,y_,y_,y_,y_,y_,n_,n_,n_,n_,n_,n_,n_,n_,n_,n_] ?_
       refine pq_ 14 48 #[y_,y_,y_,y_,y_,y_,y_,y_,y_,y_,y_,y_,y_,y_,y_,n_,n_,n_,n_,n_,n_,n_,n_,n_] ?_
       refine pq_ 15 49 #[y_,y_,y_,y_,y_,y_,y_,y_,y_,y_,y_,y_,y_,y_,y_,y_,n_,n_,n_,n_,n_,n_,n_,n_] ?_
       refine pq_ 16 50 #[y_,y_,y_,y_,y_,y_,y_,y_,y_,y_,y_,y_,y_,y_,y_,y_,y_,n_,n_,n_,n_,n_,n_,n_] ?_
       refine tq1_ 17 51 #[y_,y_,y_,y_,y_,y_,y_,y_,y_,y_,y_,y_,y_,y_,y_,y_,y_,y_,n_,n_,n_,n_,n_,n_] hHeld ?_
       refine pq_ 18 52 #[y_,y_,y_,y_,y_,y_,y_,y_,y_,y_,y_,y_,y_,y_,y_,y_,y_,y_,y_,n_,n_,n_,n_,n_] ?_
       refine pq_ 19 53 #[y_,y_,y_,y_,y_,y_,y_,y_,y_,y_,y_,y_,y_,y_,y_,y_,y_,y_,y_,y_,n_,n_,n_,n_] ?_
       refine pq_ 20 54 #[y_,y_,y_,y_,y_,y_,y_,y_,y_,y_,y_,y_,y_,y_,y_,y_,y_,y_,y_,y_,y_,n_,n_,n_] ?_
       refine one_ (i := 21) (N := some 55) #[y_,y_,y_,y_,y_,y_,y_,y_,y_,y_,y_,y_,y_,y_,y_,y_,y_,y_,y_,y_,y_,y_,n_,n_] rfl rfl (one_of HT_.out (by kernel_rfl)) (by decide) (fun K hK => ?_)
       refine goes_ Try.func19 (by kernel_rfl) rfl #[] (by rfl) rfl rfl mp_ ?_
       with_reducible refine (lockgatelaw14_works.calls kj6  t304 _ A22.out).mono ?_
       rintro e w24 ⟨rfl, hb⟩
       refine ⟨_, rfl, ?_⟩
       replace BK296 := bb_ hb BK296
       replace BK297 := bb_ hb BK297
       replace BK302 := bb_ hb BK302
       replace HB := bl_ hb
       try clear hb
       refine hK.out _ _ ⟨c0_ BK302, c1_ BK302, c2_ BK302, c0_ BK297, c1_ BK297, c2_ BK297⟩ (fun hHeld => ?_)
       clear hK K
       refine norm_ (a' := ?_) ?_ ?_
       rotate_left
       ·show Act.put _ (some 55) _ = _
        simp only [Act.put, s1_, s2_, s3_, i64_w, i32_w]
        rfl
       refine pq_ 22 56 #[y_,y_,y_,y_,y_,y_,y_,y_,y_,y_,y_,y_,y_,y_,y_,y_,y_,y_,y_,y_,y_,y_,y_,n_] ?_
       refine pq_ 23 8 #[y_,y_,y_,y_,y_,y_,y_,y_,y_,y_,y_,y_,y_,y_,y_,y_,y_,y_,y_,y_,y_,y_,y_,y_] ?_
       refine done_ (done_of HT_.out (by kernel_rfl)) ?_
       try go_wp2
       go_ret
       exact ⟨vv_, bz_⟩
     ·rw [if_neg c20] at H
      have c20b0 : (t298 == a3_0 && (t299 == a3_1 && (t300 == a3_2))) = false := by simpa using c20
      (try (have c20b1 : decide (t298 = a3_0 && (t299 == a3_1 && (t300 == a3_2))) = false := by simpa using c20))
      (try (have c20b2 : (t298 == a3_0 && (t299 == a3_1 && (t300 == a3_2))) = false := by simpa using c20))
      (try (have c20b3 : ¬ (t298 = a3_0 && (t299 == a3_1 && (t300 == a3_2))) := by simpa using c20))
      clear c20
      by_cases c25 : a3_0 = 1
      ·rw [if_pos c25] at H
       have c25b0 : (a3_0 == 1) = true := beq_iff_eq.mpr c25
       have c25b1 : (a3_0 != 1) = false := bne_eq_false_iff_eq.mpr c25
       clear c25
       replace H := Option.bind_eq_some_iff.mp H
       obtain ⟨⟨t305, t306, t307⟩, A260, H⟩ := H
       replace H : (if (t298 == t305 && (t299 == t306 && (t300 == t307))) = true then (if a3_0 = 0 then (some false) else ((lockgatelaw14_works.f kj6).bind fun t308 => (some t308))) else (some false)) = some r := H
       have A26 := Aside0.mk A260
       clear A260
       by_cases c27 : (t298 == t305 && (t299 == t306 && (t300 == t307))) = true
       ·rw [if_pos c27] at H
        have c27b0 : (t298 == t305 && (t299 == t306 && (t300 == t307))) = true := c27
        (try (have c27b1 : decide (t298 = t305 && (t299 == t306 && (t300 == t307))) = true := by simpa using c27))
        (try (have c27b2 : (t298 == t305 && (t299 == t306 && (t300 == t307))) = true := by simpa using c27))
        clear c27
        by_cases c28 : a3_0 = 0
        ·rw [if_pos c28] at H
         exact absurd (c28.symm.trans (eq_of_beq c25b0)) (by decide)
        ·rw [if_neg c28] at H
         have c28b0 : (a3_0 == 0) = false := beq_eq_false_iff_ne.mpr c28
         have c28b1 : (a3_0 != 0) = true := bne_iff_ne.mpr c28
         replace H := Option.bind_eq_some_iff.mp H
         obtain ⟨t308, A290, H⟩ := H
         replace H : (some t308) = some r := H
         have A29 := Aside0.mk A290
         clear A290
         obtain rfl := Option.some.inj H
         try go_wp2
         replace BK296 := Aside0.mk (blk_drew BK296.out)
         replace BK297 := Aside0.mk (blk_drew BK297.out)
         replace BK302 := Aside0.mk (blk_drew BK302.out)
         replace HB := Aside0.mk (below_drew1 HB.out)
         refine start_ (n := 24) (S := fun w' => w'.cell? ⟨gb302, 0, none⟩ = some (.int .i64 t298) ∧ w'.cell? ⟨gb302, 1, none⟩ = some (.int .u64 t299) ∧ w'.cell? ⟨gb302, 2, none⟩ = some (.int .i64 t300) ∧ w'.cell? ⟨gb297, 0, none⟩ = some (.int .i64 a3_0) ∧ w'.cell? ⟨gb297, 1, none⟩ = some (.int .u64 a3_1) ∧ w'.cell? ⟨gb297, 2, none⟩ = some (.int .i64 a3_2)) (ds := []) #[n_,n_,n_,n_,n_,n_,n_,n_,n_,n_,n_,n_,n_,n_,n_,n_,n_,n_,n_,n_,n_,n_,n_,n_] (by kernel_rfl) rfl rfl ⟨c0_ BK302, c1_ BK302, c2_ BK302, c0_ BK297, c1_ BK297, c2_ BK297⟩ (fun hHeld => ?_); refine with_tabW lockgatelaw14_ValuePointers.tab5 lockgatelaw14_ValuePointers.bits5 (fun HT_ HW_ => ?_)
         generalize wc.drew = w30 at BK296 BK297 BK302 HB hHeld ⊢
         refine tq1_ 0 34 #[y_,n_,n_,n_,n_,n_,n_,n_,n_,n_,n_,n_,n_,n_,n_,n_,n_,n_,n_,n_,n_,n_,n_,n_] hHeld ?_
         refine tq1_ 1 35 #[y_,y_,n_,n_,n_,n_,n_,n_,n_,n_,n_,n_,n_,n_,n_,n_,n_,n_,n_,n_,n_,n_,n_,n_] hHeld ?_
         refine pq_ 2 36 #[y_,y_,y_,n_,n_,n_,n_,n_,n_,n_,n_,n_,n_,n_,n_,n_,n_,n_,n_,n_,n_,n_,n_,n_] ?_
         refine pq_ 3 37 #[y_,y_,y_,y_,n_,n_,n_,n_,n_,n_,n_,n_,n_,n_,n_,n_,n_,n_,n_,n_,n_,n_,n_,n_] ?_
         refine pq_ 4 38 #[y_,y_,y_,y_,y_,n_,n_,n_,n_,n_,n_,n_,n_,n_,n_,n_,n_,n_,n_,n_,n_,n_,n_,n_] ?_
         refine tq1_ 5 39 #[y_,y_,y_,y_,y_,y_,n_,n_,n_,n_,n_,n_,n_,n_,n_,n_,n_,n_,n_,n_,n_,n_,n_,n_] hHeld ?_
         refine pq_ 6 40 #[y_,y_,y_,y_,y_,y_,y_,n_,n_,n_,n_,n_,n_,n_,n_,n_,n_,n_,n_,n_,n_,n_,n_,n_] ?_
         refine pq_ 7 41 #[y_,y_,y_,y_,y_,y_,y_,y_,n_,n_,n_,n_,n_,n_,n_,n_,n_,n_,n_,n_,n_,n_,n_,n_] ?_
         refine pq_ 9 43 #[y_,y_,y_,y_,y_,y_,y_,y_,n_,y_,n_,n_,n_,n_,n_,n_,n_,n_,n_,n_,n_,n_,n_,n_] ?_
         refine tq1_ 8 42 #[y_,y_,y_,y_,y_,y_,y_,y_,y_,y_,n_,n_,n_,n_,n_,n_,n_,n_,n_,n_,n_,n_,n_,n_] hHeld ?_
         refine tq1_ 10 44 #[y_,y_,y_,y_,y_,y_,y_,y_,y_,y_,y_,n_,n_,n_,n_,n_,n_,n_,n_,n_,n_,n_,n_,n_] hHeld ?_
         refine one_ (i := 11) (N := some 45) #[y_,y_,y_,y_,y_,y_,y_,y_,y_,y_,y_,y_,n_,n_,n_,n_,n_,n_,n_,n_,n_,n_,n_,n_] rfl rfl (one_of HT_.out (by kernel_rfl)) (by decide) (fun K hK => ?_)
         refine goes_ Try.func15 (by kernel_rfl) rfl #[.int .u64 a3_1] (by rfl) rfl rfl mp_ ?_
         with_reducible refine (value_Num.calls a3_1 t305 t306 t307 _ A26.out).mono ?_
         rintro e w31 ⟨rfl, hb⟩
         refine ⟨_, rfl, ?_⟩
         replace BK296 := bb_ hb BK296
         replace BK297 := bb_ hb BK297
         replace BK302 := bb_ hb BK302
         replace HB := bl_ hb
         try clear hb
         refine hK.out _ _ ⟨c0_ BK302, c1_ BK302, c2_ BK302, c0_ BK297, c1_ BK297, c2_ BK297⟩ (fun hHeld => ?_)
         clear hK K
         refine norm_ (a' := ?_) ?_ ?_
         rotate_left
         ·show Act.put _ (some 45) _ = _
          simp only [Act.put, s1_, s2_, s3_, i64_w, i32_w]
          rfl
         refine pq_ 12 46 #[y_,y_,y_,y_,y_,y_,y_,y_,y_,y_,y_,y_,y_,n_,n_,n_,n_,n_,n_,n_,n_,n_,n_,n_] ?_
         refine pq_ 13 47 #[y_,y_,y_,y_,y_,y_,y_,y_,y_,y_,y_,y_,y_,y_,n_,n_,n_,n_,n_,n_,n_,n_,n_,n_] ?_
         refine pq_ 14 48 #[y_,y_,y_,y_,y_,y_,y_,y_,y_,y_,y_,y_,y_,y_,y_,n_,n_,n_,n_,n_,n_,n_,n_,n_] ?_
         refine pq_ 15 49 #[y_,y_,y_,y_,y_,y_,y_,y_,y_,y_,y_,y_,y_,y_,y_,y_,n_,n_,n_,n_,n_,n_,n_,n_] ?_
         refine pq_ 16 50 #[y_,y_,y_,y_,y_,y_,y_,y_,y_,y_,y_,y_,y_,y_,y_,y_,y_,n_,n_,n_,n_,n_,n_,n_] ?_
         refine tq1_ 17 51 #[y_,y_,y_,y_,y_,y_,y_,y_,y_,y_,y_,y_,y_,y_,y_,y_,y_,y_,n_,n_,n_,n_,n_,n_] hHeld ?_
         refine pq_ 18 52 #[y_,y_,y_,y_,y_,y_,y_,y_,y_,y_,y_,y_,y_,y_,y_,y_,y_,y_,y_,n_,n_,n_,n_,n_] ?_
         refine pq_ 19 53 #[y_,y_,y_,y_,y_,y_,y_,y_,y_,y_,y_,y_,y_,y_,y_,y_,y_,y_,y_,y_,n_,n_,n_,n_] ?_
         refine pq_ 20 54 #[y_,y_,y_,y_,y_,y_,y_,y_,y_,y_,y_,y_,y_,y_,y_,y_,y_,y_,y_,y_,y_,n_,n_,n_] ?_
         refine one_ (i := 21) (N := some 55) #[y_,y_,y_,y_,y_,y_,y_,y_,y_,y_,y_,y_,y_,y_,y_,y_,y_,y_,y_,y_,y_,y_,n_,n_] rfl rfl (one_of HT_.out (by kernel_rfl)) (by decide) (fun K hK => ?_)
         refine goes_ Try.func19 (by kernel_rfl) rfl #[] (by rfl) rfl rfl mp_ ?_
         with_reducible refine (lockgatelaw14_works.calls kj6  t308 _ A29.out).mono ?_
         rintro e w32 ⟨rfl, hb⟩
         refine ⟨_, rfl, ?_⟩
         replace BK296 := bb_ hb BK296
         replace BK297 := bb_ hb BK297
         replace BK302 := bb_ hb BK302
         replace HB := bl_ hb
         try clear hb
         refine hK.out _ _ ⟨c0_ BK302, c1_ BK302, c2_ BK302, c0_ BK297, c1_ BK297, c2_ BK297⟩ (fun hHeld => ?_)
         clear hK K
         refine norm_ (a' := ?_) ?_ ?_
         rotate_left
         ·show Act.put _ (some 55) _ = _
          simp only [Act.put, s1_, s2_, s3_, i64_w, i32_w]
          rfl
         refine pq_ 22 56 #[y_,y_,y_,y_,y_,y_,y_,y_,y_,y_,y_,y_,y_,y_,y_,y_,y_,y_,y_,y_,y_,y_,y_,n_] ?_
         refine pq_ 23 8 #[y_,y_,y_,y_,y_,y_,y_,y_,y_,y_,y_,y_,y_,y_,y_,y_,y_,y_,y_,y_,y_,y_,y_,y_] ?_
         refine done_ (done_of HT_.out (by kernel_rfl)) ?_
         try go_wp2
         go_ret
         exact ⟨vv_, bz_⟩
       ·rw [if_neg c27] at H
        have c27b0 : (t298 == t305 && (t299 == t306 && (t300 == t307))) = false := by simpa using c27
        (try (have c27b1 : decide (t298 = t305 && (t299 == t306 && (t300 == t307))) = false := by simpa using c27))
        (try (have c27b2 : (t298 == t305 && (t299 == t306 && (t300 == t307))) = false := by simpa using c27))
        (try (have c27b3 : ¬ (t298 = t305 && (t299 == t306 && (t300 == t307))) := by simpa using c27))
        clear c27
        exact absurd ((Option.some.inj H).trans HRT.out) (by decide)
      ·rw [if_neg c25] at H
       have c25b0 : (a3_0 == 1) = false := beq_eq_false_iff_ne.mpr c25
       have c25b1 : (a3_0 != 1) = true := bne_iff_ne.mpr c25
       exact absurd ((Option.some.inj H).trans HRT.out) (by decide)
    ·replace c19 := Bool.eq_false_iff.mpr c19
     subst c19
     have H1 : (if a0 = 11 then (if a0 = 8 then (lockgatelaw14_ValuePointers.j1 kj6 a0 a1 true a2_0 a2_1 a2_2 a3_0 a3_1 a3_2 t298 t299 t300) else (lockgatelaw14_ValuePointers.j1 kj6 a0 a1 (a3_0 == 1) a2_0 a2_1 a2_2 a3_0 a3_1 a3_2 t298 t299 t300)) else (if a2_0 = 1 then (if a0 = 8 then (lockgatelaw14_ValuePointers.j1 kj6 a0 a1 true a2_0 a2_1 a2_2 a3_0 a3_1 a3_2 t298 t299 t300) else (lockgatelaw14_ValuePointers.j1 kj6 a0 a1 (a3_0 == 1) a2_0 a2_1 a2_2 a3_0 a3_1 a3_2 t298 t299 t300)) else (lockgatelaw14_ValuePointers.j1 kj6 a0 a1 false a2_0 a2_1 a2_2 a3_0 a3_1 a3_2 t298 t299 t300))) = some r := by rw [if_neg (show ¬ (false = true) by decide)] at H; exact H
     clear H
     have H := H1
     clear H1
     have HC33 := Aside0.mk H
     clear H
     go_upto_region 6 with (fail)
     go_cut [11] (fun v11 wc => ∃ (kq : Nat) (x11_32 : Bool), v11 = .bool x11_32 ∧ Aside0 (lockgatelaw14_ValuePointers.j1 kq a0 a1 x11_32 a2_0 a2_1 a2_2 a3_0 a3_1 a3_2 t298 t299 t300 = some r) ∧ Aside0 (kq ≤ kj6) ∧ Aside0 (wc.heap[gb296]? = some (.cells #[.int .i64 a2_0, .int .u64 a2_1, .int .i64 a2_2] 24 (0, 0))) ∧ Aside0 (wc.heap[gb297]? = some (.cells #[.int .i64 a3_0, .int .u64 a3_1, .int .i64 a3_2] 24 (0, 0))) ∧ Aside0 (wc.heap[gb302]? = some (.cells #[.int .i64 t298, .int .u64 t299, .int .i64 t300] 24 (0, 0))) ∧ Aside0 (Below w.heap.size w wc))
     case first =>
      have H := HC33.out
      clear HC33
      by_cases c34 : a0 = 11
      ·rw [if_pos c34] at H
       have c34b0 : (a0 == 11) = true := beq_iff_eq.mpr c34
       have c34b1 : (a0 != 11) = false := bne_eq_false_iff_eq.mpr c34
       clear c34
       (first | rw [c34b0] | (simp only [i64_w, i32_w]; rw [c34b0]) | skip)
       by_cases c35 : a0 = 8
       ·rw [if_pos c35] at H
        exact absurd (c35.symm.trans (eq_of_beq c34b0)) (by decide)
       ·rw [if_neg c35] at H
        have c35b0 : (a0 == 8) = false := beq_eq_false_iff_ne.mpr c35
        have c35b1 : (a0 != 8) = true := bne_iff_ne.mpr c35
        have H' := Aside0.mk H
        clear H
        have hnb36 := NB297_296.out
        have hnc36 := NB296_297.out
        have hnb37 := NB297_302.out
        have hnc37 := NB302_297.out
        obtain ⟨zc38_0, zc38_1, zc38_2, zf38_0, zf38_1, zf38_2⟩ := k3_ BK297
        go_wp2
        go_meet
        case rel => exact ⟨_, ((a3_0 == 1)), (by first | rfl | (simp; done) | (simp [*]; done)), H', ⟨by have := HJ6.out; first | omega | exact Nat.le_refl _⟩, ⟨bk_⟩, ⟨bk_⟩, ⟨bk_⟩, ⟨bz_⟩⟩
      ·rw [if_neg c34] at H
       have c34b0 : (a0 == 11) = false := beq_eq_false_iff_ne.mpr c34
       have c34b1 : (a0 != 11) = true := bne_iff_ne.mpr c34
       (first | rw [c34b0] | (simp only [i64_w, i32_w]; rw [c34b0]) | skip)
       by_cases c39 : a2_0 = 1
       ·rw [if_pos c39] at H
        have c39b0 : (a2_0 == 1) = true := beq_iff_eq.mpr c39
        have c39b1 : (a2_0 != 1) = false := bne_eq_false_iff_eq.mpr c39
        clear c39
        by_cases c40 : a0 = 8
        ·rw [if_pos c40] at H
         have c40b0 : (a0 == 8) = true := beq_iff_eq.mpr c40
         have c40b1 : (a0 != 8) = false := bne_eq_false_iff_eq.mpr c40
         clear c40
         have H' := Aside0.mk H
         clear H
         have hnb41 := NB296_297.out
         have hnc41 := NB297_296.out
         have hnb42 := NB296_302.out
         have hnc42 := NB302_296.out
         obtain ⟨zc43_0, zc43_1, zc43_2, zf43_0, zf43_1, zf43_2⟩ := k3_ BK296
         go_wp2
         go_meet
         case rel => exact ⟨_, (true), (by first | rfl | (simp; done) | (simp [*]; done)), H', ⟨by have := HJ6.out; first | omega | exact Nat.le_refl _⟩, ⟨bk_⟩, ⟨bk_⟩, ⟨bk_⟩, ⟨bz_⟩⟩
        ·rw [if_neg c40] at H
         have c40b0 : (a0 == 8) = false := beq_eq_false_iff_ne.mpr c40
         have c40b1 : (a0 != 8) = true := bne_iff_ne.mpr c40
         have H' := Aside0.mk H
         clear H
         have hnb44 := NB296_297.out
         have hnc44 := NB297_296.out
         have hnb45 := NB296_302.out
         have hnc45 := NB302_296.out
         obtain ⟨zc46_0, zc46_1, zc46_2, zf46_0, zf46_1, zf46_2⟩ := k3_ BK296
         have hnb47 := NB297_302.out
         have hnc47 := NB302_297.out
         obtain ⟨zc48_0, zc48_1, zc48_2, zf48_0, zf48_1, zf48_2⟩ := k3_ BK297
         go_wp2
         go_meet
         case rel => exact ⟨_, ((a3_0 == 1)), (by first | rfl | (simp; done) | (simp [*]; done)), H', ⟨by have := HJ6.out; first | omega | exact Nat.le_refl _⟩, ⟨bk_⟩, ⟨bk_⟩, ⟨bk_⟩, ⟨bz_⟩⟩
       ·rw [if_neg c39] at H
        have c39b0 : (a2_0 == 1) = false := beq_eq_false_iff_ne.mpr c39
        have c39b1 : (a2_0 != 1) = true := bne_iff_ne.mpr c39
        have H' := Aside0.mk H
        clear H
        have hnb49 := NB296_297.out
        have hnc49 := NB297_296.out
        have hnb50 := NB296_302.out
        have hnc50 := NB302_296.out
        obtain ⟨zc51_0, zc51_1, zc51_2, zf51_0, zf51_1, zf51_2⟩ := k3_ BK296
        go_wp2
        go_meet
        case rel => exact ⟨_, (false), (by first | rfl | (simp; done) | (simp [*]; done)), H', ⟨by have := HJ6.out; first | omega | exact Nat.le_refl _⟩, ⟨bk_⟩, ⟨bk_⟩, ⟨bk_⟩, ⟨bz_⟩⟩
     case rest =>
      clear HC33
      try clear c1
      try clear c2
      try clear p2
      try clear c3
      try clear c4
      try clear c5
      try clear c15
      try clear c19
      try clear c20
      try clear c20b0
      try clear c20b1
      try clear c20b2
      try clear c25
      try clear c25b0
      try clear c25b1
      try clear c27
      try clear c27b0
      try clear c27b1
      try clear c27b2
      try clear c28
      try clear c28b0
      try clear c28b1
      try clear c34
      try clear c34b0
      try clear c34b1
      try clear c35
      try clear c35b0
      try clear c35b1
      try clear c36
      try clear c37
      try clear c39
      try clear c39b0
      try clear c39b1
      try clear c40
      try clear c40b0
      try clear c40b1
      try clear c41
      try clear c42
      try clear c44
      try clear c45
      try clear c47
      try clear c49
      try clear c50
      try clear zc38_0
      try clear zc38_1
      try clear zc38_2
      try clear zc43_0
      try clear zc43_1
      try clear zc43_2
      try clear zc46_0
      try clear zc46_1
      try clear zc46_2
      try clear zc48_0
      try clear zc48_1
      try clear zc48_2
      try clear zc51_0
      try clear zc51_1
      try clear zc51_2
      try clear zf38_0
      try clear zf38_1
      try clear zf38_2
      try clear zf43_0
      try clear zf43_1
      try clear zf43_2
      try clear zf46_0
      try clear zf46_1
      try clear zf46_2
      try clear zf48_0
      try clear zf48_1
      try clear zf48_2
      try clear zf51_0
      try clear zf51_1
      try clear zf51_2
      obtain ⟨kq, x11_32, rfl, HA, HJ32, BK296, BK297, BK302, HB⟩ := hcut
      cases kq with
      | zero => exact absurd HA.out (by simp [lockgatelaw14_ValuePointers.j1])
      | succ kj32 =>
       have H := HA.out
       clear HA
       simp only [lockgatelaw14_ValuePointers.j1] at H
       by_cases c52 : x11_32 = true
       ·subst c52
        have H1 : (if t298 = 1 then (if t300 = 0 then ((lockgatelaw14_works.f kj32).bind fun t309 => (some t309)) else (some false)) else (some false)) = some r := by rw [if_pos rfl] at H; exact H
        clear H
        have H := H1
        clear H1
        by_cases c53 : t298 = 1
        ·rw [if_pos c53] at H
         have c53b0 : (t298 == 1) = true := beq_iff_eq.mpr c53
         have c53b1 : (t298 != 1) = false := bne_eq_false_iff_eq.mpr c53
         clear c53
         by_cases c54 : t300 = 0
         ·rw [if_pos c54] at H
          have c54b0 : (t300 == 0) = true := beq_iff_eq.mpr c54
          have c54b1 : (t300 != 0) = false := bne_eq_false_iff_eq.mpr c54
          clear c54
          replace H := Option.bind_eq_some_iff.mp H
          obtain ⟨t309, A550, H⟩ := H
          replace H : (some t309) = some r := H
          have A55 := Aside0.mk A550
          clear A550
          obtain rfl := Option.some.inj H
          have hnb56 := NB302_296.out
          have hnc56 := NB296_302.out
          have hnb57 := NB302_297.out
          have hnc57 := NB297_302.out
          obtain ⟨zc58_0, zc58_1, zc58_2, zf58_0, zf58_1, zf58_2⟩ := k3_ BK302
          go_wp2_with (first | (go_at_call 19; (with_reducible refine (lockgatelaw14_works.calls kj32  t309 _ A55.out).mono ?_); rintro e w59 ⟨rfl, hb⟩; replace BK296 := bb_ hb BK296; replace BK297 := bb_ hb BK297; replace BK302 := bb_ hb BK302; replace HB := bl_ hb; (try clear hb); (try clear hb2); (try clear hk); (try clear hi)))
          go_ret
          exact ⟨vv_, bz_⟩
         ·rw [if_neg c54] at H
          have c54b0 : (t300 == 0) = false := beq_eq_false_iff_ne.mpr c54
          have c54b1 : (t300 != 0) = true := bne_iff_ne.mpr c54
          exact absurd ((Option.some.inj H).trans HRT.out) (by decide)
        ·rw [if_neg c53] at H
         have c53b0 : (t298 == 1) = false := beq_eq_false_iff_ne.mpr c53
         have c53b1 : (t298 != 1) = true := bne_iff_ne.mpr c53
         exact absurd ((Option.some.inj H).trans HRT.out) (by decide)
       ·replace c52 := Bool.eq_false_iff.mpr c52
        subst c52
        have H1 : (if t298 = a2_0 then (if t300 = a2_2 then ((value_Places.f a2_0 a2_1 a2_2).bind fun t310 => (if t310 = true then (if a1 = true then (if a0 = 0 then ((lockgatelaw14_works.f kj32).bind fun t311 => (some t311)) else (if a0 = 1 then ((lockgatelaw14_works.f kj32).bind fun t312 => (some t312)) else (some false))) else (some false)) else (if t298 = a3_0 then (if t300 = a3_2 then ((value_Places.f a3_0 a3_1 a3_2).bind fun t313 => (if t313 = true then (if a1 = true then (if a0 = 0 then ((lockgatelaw14_works.f kj32).bind fun t314 => (some t314)) else (if a0 = 1 then ((lockgatelaw14_works.f kj32).bind fun t315 => (some t315)) else (some false))) else (some false)) else (some false))) else (some false)) else (some false)))) else (if t298 = a3_0 then (if t300 = a3_2 then ((value_Places.f a3_0 a3_1 a3_2).bind fun t316 => (if t316 = true then (if a1 = true then (if a0 = 0 then ((lockgatelaw14_works.f kj32).bind fun t317 => (some t317)) else (if a0 = 1 then ((lockgatelaw14_works.f kj32).bind fun t318 => (some t318)) else (some false))) else (some false)) else (some false))) else (some false)) else (some false))) else (if t298 = a3_0 then (if t300 = a3_2 then ((value_Places.f a3_0 a3_1 a3_2).bind fun t319 => (if t319 = true then (if a1 = true then (if a0 = 0 then ((lockgatelaw14_works.f kj32).bind fun t320 => (some t320)) else (if a0 = 1 then ((lockgatelaw14_works.f kj32).bind fun t321 => (some t321)) else (some false))) else (some false)) else (some false))) else (some false)) else (some false))) = some r := by rw [if_neg (show ¬ (false = true) by decide)] at H; exact H
        clear H
        have H := H1
        clear H1
        by_cases c60 : t298 = a2_0
        ·rw [if_pos c60] at H
         have c60b0 : (t298 == a2_0) = true := beq_iff_eq.mpr c60
         have c60b1 : (t298 != a2_0) = false := bne_eq_false_iff_eq.mpr c60
         clear c60
         by_cases c61 : t300 = a2_2
         ·rw [if_pos c61] at H
          have c61b0 : (t300 == a2_2) = true := beq_iff_eq.mpr c61
          have c61b1 : (t300 != a2_2) = false := bne_eq_false_iff_eq.mpr c61
          clear c61
          replace H := Option.bind_eq_some_iff.mp H
          obtain ⟨t310, A620, H⟩ := H
          replace H : (if t310 = true then (if a1 = true then (if a0 = 0 then ((lockgatelaw14_works.f kj32).bind fun t311 => (some t311)) else (if a0 = 1 then ((lockgatelaw14_works.f kj32).bind fun t312 => (some t312)) else (some false))) else (some false)) else (if t298 = a3_0 then (if t300 = a3_2 then ((value_Places.f a3_0 a3_1 a3_2).bind fun t313 => (if t313 = true then (if a1 = true then (if a0 = 0 then ((lockgatelaw14_works.f kj32).bind fun t314 => (some t314)) else (if a0 = 1 then ((lockgatelaw14_works.f kj32).bind fun t315 => (some t315)) else (some false))) else (some false)) else (some false))) else (some false)) else (some false))) = some r := H
          have A62 := Aside0.mk A620
          clear A620
          by_cases c63 : t310 = true
          ·subst c63
           have H1 : (if a1 = true then (if a0 = 0 then ((lockgatelaw14_works.f kj32).bind fun t311 => (some t311)) else (if a0 = 1 then ((lockgatelaw14_works.f kj32).bind fun t312 => (some t312)) else (some false))) else (some false)) = some r := by rw [if_pos rfl] at H; exact H
           clear H
           have H := H1
           clear H1
           by_cases c64 : a1 = true
           ·subst c64
            have H1 : (if a0 = 0 then ((lockgatelaw14_works.f kj32).bind fun t311 => (some t311)) else (if a0 = 1 then ((lockgatelaw14_works.f kj32).bind fun t312 => (some t312)) else (some false))) = some r := by rw [if_pos rfl] at H; exact H
            clear H
            have H := H1
            clear H1
            by_cases c65 : a0 = 0
            ·rw [if_pos c65] at H
             have c65b0 : (a0 == 0) = true := beq_iff_eq.mpr c65
             have c65b1 : (a0 != 0) = false := bne_eq_false_iff_eq.mpr c65
             clear c65
             replace H := Option.bind_eq_some_iff.mp H
             obtain ⟨t311, A660, H⟩ := H
             replace H : (some t311) = some r := H
             have A66 := Aside0.mk A660
             clear A660
             obtain rfl := Option.some.inj H
             have hnb67 := NB302_296.out
             have hnc67 := NB296_302.out
             have hnb68 := NB302_297.out
             have hnc68 := NB297_302.out
             obtain ⟨zc69_0, zc69_1, zc69_2, zf69_0, zf69_1, zf69_2⟩ := k3_ BK302
             have hnb70 := NB296_297.out
             have hnc70 := NB297_296.out
             obtain ⟨zc71_0, zc71_1, zc71_2, zf71_0, zf71_1, zf71_2⟩ := k3_ BK296
             go_wp2_with (first | (go_at_call 13; (with_reducible refine (value_Places.calls a2_0 a2_1 a2_2 true _ A62.out).mono ?_); rintro e w72 ⟨rfl, hb⟩; replace BK296 := bb_ hb BK296; replace BK297 := bb_ hb BK297; replace BK302 := bb_ hb BK302; replace HB := bl_ hb; (try clear hb); (try clear hb2); (try clear hk); (try clear hi)) | (go_at_call 19; (with_reducible refine (lockgatelaw14_works.calls kj32  t311 _ A66.out).mono ?_); rintro e w73 ⟨rfl, hb⟩; replace BK296 := bb_ hb BK296; replace BK297 := bb_ hb BK297; replace BK302 := bb_ hb BK302; replace HB := bl_ hb; (try clear hb); (try clear hb2); (try clear hk); (try clear hi)))
             go_ret
             exact ⟨vv_, bz_⟩
            ·rw [if_neg c65] at H
             have c65b0 : (a0 == 0) = false := beq_eq_false_iff_ne.mpr c65
             have c65b1 : (a0 != 0) = true := bne_iff_ne.mpr c65
             by_cases c74 : a0 = 1
             ·rw [if_pos c74] at H
              have c74b0 : (a0 == 1) = true := beq_iff_eq.mpr c74
              have c74b1 : (a0 != 1) = false := bne_eq_false_iff_eq.mpr c74
              clear c74
              replace H := Option.bind_eq_some_iff.mp H
              obtain ⟨t312, A750, H⟩ := H
              replace H : (some t312) = some r := H
              have A75 := Aside0.mk A750
              clear A750
              obtain rfl := Option.some.inj H
              have hnb76 := NB302_296.out
              have hnc76 := NB296_302.out
              have hnb77 := NB302_297.out
              have hnc77 := NB297_302.out
              obtain ⟨zc78_0, zc78_1, zc78_2, zf78_0, zf78_1, zf78_2⟩ := k3_ BK302
              have hnb79 := NB296_297.out
              have hnc79 := NB297_296.out
              obtain ⟨zc80_0, zc80_1, zc80_2, zf80_0, zf80_1, zf80_2⟩ := k3_ BK296
              go_wp2_with (first | (go_at_call 13; (with_reducible refine (value_Places.calls a2_0 a2_1 a2_2 true _ A62.out).mono ?_); rintro e w81 ⟨rfl, hb⟩; replace BK296 := bb_ hb BK296; replace BK297 := bb_ hb BK297; replace BK302 := bb_ hb BK302; replace HB := bl_ hb; (try clear hb); (try clear hb2); (try clear hk); (try clear hi)) | (go_at_call 19; (with_reducible refine (lockgatelaw14_works.calls kj32  t312 _ A75.out).mono ?_); rintro e w82 ⟨rfl, hb⟩; replace BK296 := bb_ hb BK296; replace BK297 := bb_ hb BK297; replace BK302 := bb_ hb BK302; replace HB := bl_ hb; (try clear hb); (try clear hb2); (try clear hk); (try clear hi)))
              go_ret
              exact ⟨vv_, bz_⟩
             ·rw [if_neg c74] at H
              have c74b0 : (a0 == 1) = false := beq_eq_false_iff_ne.mpr c74
              have c74b1 : (a0 != 1) = true := bne_iff_ne.mpr c74
              exact absurd ((Option.some.inj H).trans HRT.out) (by decide)
           ·replace c64 := Bool.eq_false_iff.mpr c64
            subst c64
            have H1 : (some false) = some r := by rw [if_neg (show ¬ (false = true) by decide)] at H; exact H
            clear H
            have H := H1
            clear H1
            exact absurd ((Option.some.inj H).trans HRT.out) (by decide)
          ·replace c63 := Bool.eq_false_iff.mpr c63
           subst c63
           have H1 : (if t298 = a3_0 then (if t300 = a3_2 then ((value_Places.f a3_0 a3_1 a3_2).bind fun t313 => (if t313 = true then (if a1 = true then (if a0 = 0 then ((lockgatelaw14_works.f kj32).bind fun t314 => (some t314)) else (if a0 = 1 then ((lockgatelaw14_works.f kj32).bind fun t315 => (some t315)) else (some false))) else (some false)) else (some false))) else (some false)) else (some false)) = some r := by rw [if_neg (show ¬ (false = true) by decide)] at H; exact H
           clear H
           have H := H1
           clear H1
           by_cases c83 : t298 = a3_0
           ·rw [if_pos c83] at H
            have c83b0 : (t298 == a3_0) = true := beq_iff_eq.mpr c83
            have c83b1 : (t298 != a3_0) = false := bne_eq_false_iff_eq.mpr c83
            clear c83
            by_cases c84 : t300 = a3_2
            ·rw [if_pos c84] at H
             have c84b0 : (t300 == a3_2) = true := beq_iff_eq.mpr c84
             have c84b1 : (t300 != a3_2) = false := bne_eq_false_iff_eq.mpr c84
             clear c84
             replace H := Option.bind_eq_some_iff.mp H
             obtain ⟨t313, A850, H⟩ := H
             replace H : (if t313 = true then (if a1 = true then (if a0 = 0 then ((lockgatelaw14_works.f kj32).bind fun t314 => (some t314)) else (if a0 = 1 then ((lockgatelaw14_works.f kj32).bind fun t315 => (some t315)) else (some false))) else (some false)) else (some false)) = some r := H
             have A85 := Aside0.mk A850
             clear A850
             by_cases c86 : t313 = true
             ·subst c86
              have H1 : (if a1 = true then (if a0 = 0 then ((lockgatelaw14_works.f kj32).bind fun t314 => (some t314)) else (if a0 = 1 then ((lockgatelaw14_works.f kj32).bind fun t315 => (some t315)) else (some false))) else (some false)) = some r := by rw [if_pos rfl] at H; exact H
              clear H
              have H := H1
              clear H1
              by_cases c87 : a1 = true
              ·subst c87
               have H1 : (if a0 = 0 then ((lockgatelaw14_works.f kj32).bind fun t314 => (some t314)) else (if a0 = 1 then ((lockgatelaw14_works.f kj32).bind fun t315 => (some t315)) else (some false))) = some r := by rw [if_pos rfl] at H; exact H
               clear H
               have H := H1
               clear H1
               by_cases c88 : a0 = 0
               ·rw [if_pos c88] at H
                have c88b0 : (a0 == 0) = true := beq_iff_eq.mpr c88
                have c88b1 : (a0 != 0) = false := bne_eq_false_iff_eq.mpr c88
                clear c88
                replace H := Option.bind_eq_some_iff.mp H
                obtain ⟨t314, A890, H⟩ := H
                replace H : (some t314) = some r := H
                have A89 := Aside0.mk A890
                clear A890
                obtain rfl := Option.some.inj H
                have hnb90 := NB302_296.out
                have hnc90 := NB296_302.out
                have hnb91 := NB302_297.out
                have hnc91 := NB297_302.out
                obtain ⟨zc92_0, zc92_1, zc92_2, zf92_0, zf92_1, zf92_2⟩ := k3_ BK302
                have hnb93 := NB296_297.out
                have hnc93 := NB297_296.out
                obtain ⟨zc94_0, zc94_1, zc94_2, zf94_0, zf94_1, zf94_2⟩ := k3_ BK296
                go_wp2_with (first | (go_at_call 13; (with_reducible refine (value_Places.calls a2_0 a2_1 a2_2 false _ A62.out).mono ?_); rintro e w95 ⟨rfl, hb⟩; replace BK296 := bb_ hb BK296; replace BK297 := bb_ hb BK297; replace BK302 := bb_ hb BK302; replace HB := bl_ hb; (try clear hb); (try clear hb2); (try clear hk); (try clear hi); obtain ⟨zc96_0, zc96_1, zc96_2, zf96_0, zf96_1, zf96_2⟩ := k3_ BK302; obtain ⟨zc97_0, zc97_1, zc97_2, zf97_0, zf97_1, zf97_2⟩ := k3_ BK297) | (go_at_call 13; (with_reducible refine (value_Places.calls a3_0 a3_1 a3_2 true _ A85.out).mono ?_); rintro e w98 ⟨rfl, hb⟩; replace BK296 := bb_ hb BK296; replace BK297 := bb_ hb BK297; replace BK302 := bb_ hb BK302; replace HB := bl_ hb; (try clear hb); (try clear hb2); (try clear hk); (try clear hi)) | (go_at_call 19; (with_reducible refine (lockgatelaw14_works.calls kj32  t314 _ A89.out).mono ?_); rintro e w99 ⟨rfl, hb⟩; replace BK296 := bb_ hb BK296; replace BK297 := bb_ hb BK297; replace BK302 := bb_ hb BK302; replace HB := bl_ hb; (try clear hb); (try clear hb2); (try clear hk); (try clear hi)))
                go_ret
                exact ⟨vv_, bz_⟩
               ·rw [if_neg c88] at H
                have c88b0 : (a0 == 0) = false := beq_eq_false_iff_ne.mpr c88
                have c88b1 : (a0 != 0) = true := bne_iff_ne.mpr c88
                by_cases c100 : a0 = 1
                ·rw [if_pos c100] at H
                 have c100b0 : (a0 == 1) = true := beq_iff_eq.mpr c100
                 have c100b1 : (a0 != 1) = false := bne_eq_false_iff_eq.mpr c100
                 clear c100
                 replace H := Option.bind_eq_some_iff.mp H
                 obtain ⟨t315, A1010, H⟩ := H
                 replace H : (some t315) = some r := H
                 have A101 := Aside0.mk A1010
                 clear A1010
                 obtain rfl := Option.some.inj H
                 have hnb102 := NB302_296.out
                 have hnc102 := NB296_302.out
                 have hnb103 := NB302_297.out
                 have hnc103 := NB297_302.out
                 obtain ⟨zc104_0, zc104_1, zc104_2, zf104_0, zf104_1, zf104_2⟩ := k3_ BK302
                 have hnb105 := NB296_297.out
                 have hnc105 := NB297_296.out
                 obtain ⟨zc106_0, zc106_1, zc106_2, zf106_0, zf106_1, zf106_2⟩ := k3_ BK296
                 go_wp2_with (first | (go_at_call 13; (with_reducible refine (value_Places.calls a2_0 a2_1 a2_2 false _ A62.out).mono ?_); rintro e w107 ⟨rfl, hb⟩; replace BK296 := bb_ hb BK296; replace BK297 := bb_ hb BK297; replace BK302 := bb_ hb BK302; replace HB := bl_ hb; (try clear hb); (try clear hb2); (try clear hk); (try clear hi); obtain ⟨zc108_0, zc108_1, zc108_2, zf108_0, zf108_1, zf108_2⟩ := k3_ BK302; obtain ⟨zc109_0, zc109_1, zc109_2, zf109_0, zf109_1, zf109_2⟩ := k3_ BK297) | (go_at_call 13; (with_reducible refine (value_Places.calls a3_0 a3_1 a3_2 true _ A85.out).mono ?_); rintro e w110 ⟨rfl, hb⟩; replace BK296 := bb_ hb BK296; replace BK297 := bb_ hb BK297; replace BK302 := bb_ hb BK302; replace HB := bl_ hb; (try clear hb); (try clear hb2); (try clear hk); (try clear hi)) | (go_at_call 19; (with_reducible refine (lockgatelaw14_works.calls kj32  t315 _ A101.out).mono ?_); rintro e w111 ⟨rfl, hb⟩; replace BK296 := bb_ hb BK296; replace BK297 := bb_ hb BK297; replace BK302 := bb_ hb BK302; replace HB := bl_ hb; (try clear hb); (try clear hb2); (try clear hk); (try clear hi)))
                 go_ret
                 exact ⟨vv_, bz_⟩
                ·rw [if_neg c100] at H
                 have c100b0 : (a0 == 1) = false := beq_eq_false_iff_ne.mpr c100
                 have c100b1 : (a0 != 1) = true := bne_iff_ne.mpr c100
                 exact absurd ((Option.some.inj H).trans HRT.out) (by decide)
              ·replace c87 := Bool.eq_false_iff.mpr c87
               subst c87
               have H1 : (some false) = some r := by rw [if_neg (show ¬ (false = true) by decide)] at H; exact H
               clear H
               have H := H1
               clear H1
               exact absurd ((Option.some.inj H).trans HRT.out) (by decide)
             ·replace c86 := Bool.eq_false_iff.mpr c86
              subst c86
              have H1 : (some false) = some r := by rw [if_neg (show ¬ (false = true) by decide)] at H; exact H
              clear H
              have H := H1
              clear H1
              exact absurd ((Option.some.inj H).trans HRT.out) (by decide)
            ·rw [if_neg c84] at H
             have c84b0 : (t300 == a3_2) = false := beq_eq_false_iff_ne.mpr c84
             have c84b1 : (t300 != a3_2) = true := bne_iff_ne.mpr c84
             exact absurd ((Option.some.inj H).trans HRT.out) (by decide)
           ·rw [if_neg c83] at H
            have c83b0 : (t298 == a3_0) = false := beq_eq_false_iff_ne.mpr c83
            have c83b1 : (t298 != a3_0) = true := bne_iff_ne.mpr c83
            exact absurd ((Option.some.inj H).trans HRT.out) (by decide)
         ·rw [if_neg c61] at H
          have c61b0 : (t300 == a2_2) = false := beq_eq_false_iff_ne.mpr c61
          have c61b1 : (t300 != a2_2) = true := bne_iff_ne.mpr c61
          by_cases c112 : t298 = a3_0
          ·rw [if_pos c112] at H
           have c112b0 : (t298 == a3_0) = true := beq_iff_eq.mpr c112
           have c112b1 : (t298 != a3_0) = false := bne_eq_false_iff_eq.mpr c112
           clear c112
           by_cases c113 : t300 = a3_2
           ·rw [if_pos c113] at H
            have c113b0 : (t300 == a3_2) = true := beq_iff_eq.mpr c113
            have c113b1 : (t300 != a3_2) = false := bne_eq_false_iff_eq.mpr c113
            clear c113
            replace H := Option.bind_eq_some_iff.mp H
            obtain ⟨t316, A1140, H⟩ := H
            replace H : (if t316 = true then (if a1 = true then (if a0 = 0 then ((lockgatelaw14_works.f kj32).bind fun t317 => (some t317)) else (if a0 = 1 then ((lockgatelaw14_works.f kj32).bind fun t318 => (some t318)) else (some false))) else (some false)) else (some false)) = some r := H
            have A114 := Aside0.mk A1140
            clear A1140
            by_cases c115 : t316 = true
            ·subst c115
             have H1 : (if a1 = true then (if a0 = 0 then ((lockgatelaw14_works.f kj32).bind fun t317 => (some t317)) else (if a0 = 1 then ((lockgatelaw14_works.f kj32).bind fun t318 => (some t318)) else (some false))) else (some false)) = some r := by rw [if_pos rfl] at H; exact H
             clear H
             have H := H1
             clear H1
             by_cases c116 : a1 = true
             ·subst c116
              have H1 : (if a0 = 0 then ((lockgatelaw14_works.f kj32).bind fun t317 => (some t317)) else (if a0 = 1 then ((lockgatelaw14_works.f kj32).bind fun t318 => (some t318)) else (some false))) = some r := by rw [if_pos rfl] at H; exact H
              clear H
              have H := H1
              clear H1
              by_cases c117 : a0 = 0
              ·rw [if_pos c117] at H
               have c117b0 : (a0 == 0) = true := beq_iff_eq.mpr c117
               have c117b1 : (a0 != 0) = false := bne_eq_false_iff_eq.mpr c117
               clear c117
               replace H := Option.bind_eq_some_iff.mp H
               obtain ⟨t317, A1180, H⟩ := H
               replace H : (some t317) = some r := H
               have A118 := Aside0.mk A1180
               clear A1180
               obtain rfl := Option.some.inj H
               have hnb119 := NB302_296.out
               have hnc119 := NB296_302.out
               have hnb120 := NB302_297.out
               have hnc120 := NB297_302.out
               obtain ⟨zc121_0, zc121_1, zc121_2, zf121_0, zf121_1, zf121_2⟩ := k3_ BK302
               have hnb122 := NB296_297.out
               have hnc122 := NB297_296.out
               obtain ⟨zc123_0, zc123_1, zc123_2, zf123_0, zf123_1, zf123_2⟩ := k3_ BK296
               obtain ⟨zc124_0, zc124_1, zc124_2, zf124_0, zf124_1, zf124_2⟩ := k3_ BK297
               go_wp2_with (first | (go_at_call 13; (with_reducible refine (value_Places.calls a3_0 a3_1 a3_2 true _ A114.out).mono ?_); rintro e w125 ⟨rfl, hb⟩; replace BK296 := bb_ hb BK296; replace BK297 := bb_ hb BK297; replace BK302 := bb_ hb BK302; replace HB := bl_ hb; (try clear hb); (try clear hb2); (try clear hk); (try clear hi)) | (go_at_call 19; (with_reducible refine (lockgatelaw14_works.calls kj32  t317 _ A118.out).mono ?_); rintro e w126 ⟨rfl, hb⟩; replace BK296 := bb_ hb BK296; replace BK297 := bb_ hb BK297; replace BK302 := bb_ hb BK302; replace HB := bl_ hb; (try clear hb); (try clear hb2); (try clear hk); (try clear hi)))
               go_ret
               exact ⟨vv_, bz_⟩
              ·rw [if_neg c117] at H
               have c117b0 : (a0 == 0) = false := beq_eq_false_iff_ne.mpr c117
               have c117b1 : (a0 != 0) = true := bne_iff_ne.mpr c117
               by_cases c127 : a0 = 1
               ·rw [if_pos c127] at H
                have c127b0 : (a0 == 1) = true := beq_iff_eq.mpr c127
                have c127b1 : (a0 != 1) = false := bne_eq_false_iff_eq.mpr c127
                clear c127
                replace H := Option.bind_eq_some_iff.mp H
                obtain ⟨t318, A1280, H⟩ := H
                replace H : (some t318) = some r := H
                have A128 := Aside0.mk A1280
                clear A1280
                obtain rfl := Option.some.inj H
                have hnb129 := NB302_296.out
                have hnc129 := NB296_302.out
                have hnb130 := NB302_297.out
                have hnc130 := NB297_302.out
                obtain ⟨zc131_0, zc131_1, zc131_2, zf131_0, zf131_1, zf131_2⟩ := k3_ BK302
                have hnb132 := NB296_297.out
                have hnc132 := NB297_296.out
                obtain ⟨zc133_0, zc133_1, zc133_2, zf133_0, zf133_1, zf133_2⟩ := k3_ BK296
                obtain ⟨zc134_0, zc134_1, zc134_2, zf134_0, zf134_1, zf134_2⟩ := k3_ BK297
                go_wp2_with (first | (go_at_call 13; (with_reducible refine (value_Places.calls a3_0 a3_1 a3_2 true _ A114.out).mono ?_); rintro e w135 ⟨rfl, hb⟩; replace BK296 := bb_ hb BK296; replace BK297 := bb_ hb BK297; replace BK302 := bb_ hb BK302; replace HB := bl_ hb; (try clear hb); (try clear hb2); (try clear hk); (try clear hi)) | (go_at_call 19; (with_reducible refine (lockgatelaw14_works.calls kj32  t318 _ A128.out).mono ?_); rintro e w136 ⟨rfl, hb⟩; replace BK296 := bb_ hb BK296; replace BK297 := bb_ hb BK297; replace BK302 := bb_ hb BK302; replace HB := bl_ hb; (try clear hb); (try clear hb2); (try clear hk); (try clear hi)))
                go_ret
                exact ⟨vv_, bz_⟩
               ·rw [if_neg c127] at H
                have c127b0 : (a0 == 1) = false := beq_eq_false_iff_ne.mpr c127
                have c127b1 : (a0 != 1) = true := bne_iff_ne.mpr c127
                exact absurd ((Option.some.inj H).trans HRT.out) (by decide)
             ·replace c116 := Bool.eq_false_iff.mpr c116
              subst c116
              have H1 : (some false) = some r := by rw [if_neg (show ¬ (false = true) by decide)] at H; exact H
              clear H
              have H := H1
              clear H1
              exact absurd ((Option.some.inj H).trans HRT.out) (by decide)
            ·replace c115 := Bool.eq_false_iff.mpr c115
             subst c115
             have H1 : (some false) = some r := by rw [if_neg (show ¬ (false = true) by decide)] at H; exact H
             clear H
             have H := H1
             clear H1
             exact absurd ((Option.some.inj H).trans HRT.out) (by decide)
           ·rw [if_neg c113] at H
            have c113b0 : (t300 == a3_2) = false := beq_eq_false_iff_ne.mpr c113
            have c113b1 : (t300 != a3_2) = true := bne_iff_ne.mpr c113
            exact absurd ((Option.some.inj H).trans HRT.out) (by decide)
          ·rw [if_neg c112] at H
           have c112b0 : (t298 == a3_0) = false := beq_eq_false_iff_ne.mpr c112
           have c112b1 : (t298 != a3_0) = true := bne_iff_ne.mpr c112
           exact absurd ((Option.some.inj H).trans HRT.out) (by decide)
        ·rw [if_neg c60] at H
         have c60b0 : (t298 == a2_0) = false := beq_eq_false_iff_ne.mpr c60
         have c60b1 : (t298 != a2_0) = true := bne_iff_ne.mpr c60
         by_cases c137 : t298 = a3_0
         ·rw [if_pos c137] at H
          have c137b0 : (t298 == a3_0) = true := beq_iff_eq.mpr c137
          have c137b1 : (t298 != a3_0) = false := bne_eq_false_iff_eq.mpr c137
          clear c137
          by_cases c138 : t300 = a3_2
          ·rw [if_pos c138] at H
           have c138b0 : (t300 == a3_2) = true := beq_iff_eq.mpr c138
           have c138b1 : (t300 != a3_2) = false := bne_eq_false_iff_eq.mpr c138
           clear c138
           replace H := Option.bind_eq_some_iff.mp H
           obtain ⟨t319, A1390, H⟩ := H
           replace H : (if t319 = true then (if a1 = true then (if a0 = 0 then ((lockgatelaw14_works.f kj32).bind fun t320 => (some t320)) else (if a0 = 1 then ((lockgatelaw14_works.f kj32).bind fun t321 => (some t321)) else (some false))) else (some false)) else (some false)) = some r := H
           have A139 := Aside0.mk A1390
           clear A1390
           by_cases c140 : t319 = true
           ·subst c140
            have H1 : (if a1 = true then (if a0 = 0 then ((lockgatelaw14_works.f kj32).bind fun t320 => (some t320)) else (if a0 = 1 then ((lockgatelaw14_works.f kj32).bind fun t321 => (some t321)) else (some false))) else (some false)) = some r := by rw [if_pos rfl] at H; exact H
            clear H
            have H := H1
            clear H1
            by_cases c141 : a1 = true
            ·subst c141
             have H1 : (if a0 = 0 then ((lockgatelaw14_works.f kj32).bind fun t320 => (some t320)) else (if a0 = 1 then ((lockgatelaw14_works.f kj32).bind fun t321 => (some t321)) else (some false))) = some r := by rw [if_pos rfl] at H; exact H
             clear H
             have H := H1
             clear H1
             by_cases c142 : a0 = 0
             ·rw [if_pos c142] at H
              have c142b0 : (a0 == 0) = true := beq_iff_eq.mpr c142
              have c142b1 : (a0 != 0) = false := bne_eq_false_iff_eq.mpr c142
              clear c142
              replace H := Option.bind_eq_some_iff.mp H
              obtain ⟨t320, A1430, H⟩ := H
              replace H : (some t320) = some r := H
              have A143 := Aside0.mk A1430
              clear A1430
              obtain rfl := Option.some.inj H
              have hnb144 := NB302_296.out
              have hnc144 := NB296_302.out
              have hnb145 := NB302_297.out
              have hnc145 := NB297_302.out
              obtain ⟨zc146_0, zc146_1, zc146_2, zf146_0, zf146_1, zf146_2⟩ := k3_ BK302
              have hnb147 := NB296_297.out
              have hnc147 := NB297_296.out
              obtain ⟨zc148_0, zc148_1, zc148_2, zf148_0, zf148_1, zf148_2⟩ := k3_ BK296
              obtain ⟨zc149_0, zc149_1, zc149_2, zf149_0, zf149_1, zf149_2⟩ := k3_ BK297
              go_wp2_with (first | (go_at_call 13; (with_reducible refine (value_Places.calls a3_0 a3_1 a3_2 true _ A139.out).mono ?_); rintro e w150 ⟨rfl, hb⟩; replace BK296 := bb_ hb BK296; replace BK297 := bb_ hb BK297; replace BK302 := bb_ hb BK302; replace HB := bl_ hb; (try clear hb); (try clear hb2); (try clear hk); (try clear hi)) | (go_at_call 19; (with_reducible refine (lockgatelaw14_works.calls kj32  t320 _ A143.out).mono ?_); rintro e w151 ⟨rfl, hb⟩; replace BK296 := bb_ hb BK296; replace BK297 := bb_ hb BK297; replace BK302 := bb_ hb BK302; replace HB := bl_ hb; (try clear hb); (try clear hb2); (try clear hk); (try clear hi)))
              go_ret
              exact ⟨vv_, bz_⟩
             ·rw [if_neg c142] at H
              have c142b0 : (a0 == 0) = false := beq_eq_false_iff_ne.mpr c142
              have c142b1 : (a0 != 0) = true := bne_iff_ne.mpr c142
              by_cases c152 : a0 = 1
              ·rw [if_pos c152] at H
               have c152b0 : (a0 == 1) = true := beq_iff_eq.mpr c152
               have c152b1 : (a0 != 1) = false := bne_eq_false_iff_eq.mpr c152
               clear c152
               replace H := Option.bind_eq_some_iff.mp H
               obtain ⟨t321, A1530, H⟩ := H
               replace H : (some t321) = some r := H
               have A153 := Aside0.mk A1530
               clear A1530
               obtain rfl := Option.some.inj H
               have hnb154 := NB302_296.out
               have hnc154 := NB296_302.out
               have hnb155 := NB302_297.out
               have hnc155 := NB297_302.out
               obtain ⟨zc156_0, zc156_1, zc156_2, zf156_0, zf156_1, zf156_2⟩ := k3_ BK302
               have hnb157 := NB296_297.out
               have hnc157 := NB297_296.out
               obtain ⟨zc158_0, zc158_1, zc158_2, zf158_0, zf158_1, zf158_2⟩ := k3_ BK296
               obtain ⟨zc159_0, zc159_1, zc159_2, zf159_0, zf159_1, zf159_2⟩ := k3_ BK297
               go_wp2_with (first | (go_at_call 13; (with_reducible refine (value_Places.calls a3_0 a3_1 a3_2 true _ A139.out).mono ?_); rintro e w160 ⟨rfl, hb⟩; replace BK296 := bb_ hb BK296; replace BK297 := bb_ hb BK297; replace BK302 := bb_ hb BK302; replace HB := bl_ hb; (try clear hb); (try clear hb2); (try clear hk); (try clear hi)) | (go_at_call 19; (with_reducible refine (lockgatelaw14_works.calls kj32  t321 _ A153.out).mono ?_); rintro e w161 ⟨rfl, hb⟩; replace BK296 := bb_ hb BK296; replace BK297 := bb_ hb BK297; replace BK302 := bb_ hb BK302; replace HB := bl_ hb; (try clear hb); (try clear hb2); (try clear hk); (try clear hi)))
               go_ret
               exact ⟨vv_, bz_⟩
              ·rw [if_neg c152] at H
               have c152b0 : (a0 == 1) = false := beq_eq_false_iff_ne.mpr c152
               have c152b1 : (a0 != 1) = true := bne_iff_ne.mpr c152
               exact absurd ((Option.some.inj H).trans HRT.out) (by decide)
            ·replace c141 := Bool.eq_false_iff.mpr c141
             subst c141
             have H1 : (some false) = some r := by rw [if_neg (show ¬ (false = true) by decide)] at H; exact H
             clear H
             have H := H1
             clear H1
             exact absurd ((Option.some.inj H).trans HRT.out) (by decide)
           ·replace c140 := Bool.eq_false_iff.mpr c140
            subst c140
            have H1 : (some false) = some r := by rw [if_neg (show ¬ (false = true) by decide)] at H; exact H
            clear H
            have H := H1
            clear H1
            exact absurd ((Option.some.inj H).trans HRT.out) (by decide)
          ·rw [if_neg c138] at H
           have c138b0 : (t300 == a3_2) = false := beq_eq_false_iff_ne.mpr c138
           have c138b1 : (t300 != a3_2) = true := bne_iff_ne.mpr c138
           exact absurd ((Option.some.inj H).trans HRT.out) (by decide)
         ·rw [if_neg c137] at H
          have c137b0 : (t298 == a3_0) = false := beq_eq_false_iff_ne.mpr c137
          have c137b1 : (t298 != a3_0) = true := bne_iff_ne.mpr c137
          exact absurd ((Option.some.inj H).trans HRT.out) (by decide)
 ·rw [if_neg c6] at H
  have c6b0 : (t301 == 0) = false := beq_eq_false_iff_ne.mpr c6
  have c6b1 : (t301 != 0) = true := bne_iff_ne.mpr c6
  by_cases c162 : (t298 == 0 && (t299 == 0 && (t300 == 0))) = true
  ·rw [if_pos c162] at H
   have c162b0 : (t298 == 0 && (t299 == 0 && (t300 == 0))) = true := c162
   (try (have c162b1 : decide (t298 = 0 && (t299 == 0 && (t300 == 0))) = true := by simpa using c162))
   (try (have c162b2 : (t298 == 0 && (t299 == 0 && (t300 == 0))) = true := by simpa using c162))
   clear c162
   replace H := Option.bind_eq_some_iff.mp H
   obtain ⟨t303, A1630, H⟩ := H
   replace H : (some t303) = some r := H
   have A163 := Aside0.mk A1630
   clear A1630
   obtain rfl := Option.some.inj H
   go_enter Try.func5, Try.ntmps5
   go_wp2_with (first | ((with_reducible refine gate_dst (N := 6) rfl ?_); refine bx_ 6 #[.int .i64 a2_0, .int .u64 a2_1, .int .i64 a2_2] 24 ?_; intro gb296 hg w164 BK296 hb; have GW296 := bg_ hg; have GE296 := GW296; replace HB := bl_ hb; clear hb hg) | ((with_reducible refine gate_dst (N := 7) rfl ?_); refine bx_ 7 #[.int .i64 a3_0, .int .u64 a3_1, .int .i64 a3_2] 24 ?_; intro gb297 hg w165 BK297 hb; have GW297 := bg_ hg; have GE297 := GW297; have NB296_297 := bm_ hg BK296; have NB297_296 := bn_ hg BK296; replace BK296 := bb_ hb BK296; replace HB := bl_ hb; clear hb hg; have hnb166 := NB296_297.out; have hnc166 := NB297_296.out; obtain ⟨zc167_0, zc167_1, zc167_2, zf167_0, zf167_1, zf167_2⟩ := k3_ BK296; obtain ⟨zc168_0, zc168_1, zc168_2, zf168_0, zf168_1, zf168_2⟩ := k3_ BK297) | ((with_reducible refine gate_callee (f := 11) rfl ?_); refine gM_ 18 Try.func11 (value_Alu.calls k a0 a1 a2_0 a2_1 a2_2 a3_0 a3_1 a3_2 t298 t299 t300 t301 _ A5.out) ?_; intro w169 hb; replace BK296 := bb_ hb BK296; replace BK297 := bb_ hb BK297; replace HB := bl_ hb; (try clear hb); (try clear hb2); (try clear hk); (try clear hi)) | ((with_reducible refine gate_dst (N := 9) rfl ?_); refine bx_ 9 #[.int .i64 0, .int .u64 0, .int .i64 0] 24 ?_; intro gb302 hg w170 BK302 hb; have GW302 := bg_ hg; have GE302 := GW302; have NB296_302 := bm_ hg BK296; have NB302_296 := bn_ hg BK296; have NB297_302 := bm_ hg BK297; have NB302_297 := bn_ hg BK297; replace BK296 := bb_ hb BK296; replace BK297 := bb_ hb BK297; replace HB := bl_ hb; clear hb hg; have hnb171 := NB302_296.out; have hnc171 := NB296_302.out; have hnb172 := NB302_297.out; have hnc172 := NB297_302.out; obtain ⟨zc173_0, zc173_1, zc173_2, zf173_0, zf173_1, zf173_2⟩ := k3_ BK302) | (go_at_call 19; (with_reducible refine (lockgatelaw14_works.calls k  t303 _ A163.out).mono ?_); rintro e w174 ⟨rfl, hb⟩; replace BK296 := Aside0.mk (blk_below (g := gb296) (o := .cells #[.int .i64 a2_0, .int .u64 a2_1, .int .i64 a2_2] 24 (0, 0)) (by (with_reducible repeat (first | apply bN_ | apply bD_ | apply bA_)); refine blk_far ?_ NB296_302.out _; (with_reducible repeat (first | apply bN_ | apply bD_ | apply bA_)); refine blk_far ?_ NB296_302.out _; (with_reducible repeat (first | apply bN_ | apply bD_ | apply bA_)); refine blk_far ?_ NB296_302.out _; exact bk_) hb); replace BK297 := Aside0.mk (blk_below (g := gb297) (o := .cells #[.int .i64 a3_0, .int .u64 a3_1, .int .i64 a3_2] 24 (0, 0)) (by (with_reducible repeat (first | apply bN_ | apply bD_ | apply bA_)); refine blk_far ?_ NB297_302.out _; (with_reducible repeat (first | apply bN_ | apply bD_ | apply bA_)); refine blk_far ?_ NB297_302.out _; (with_reducible repeat (first | apply bN_ | apply bD_ | apply bA_)); refine blk_far ?_ NB297_302.out _; exact bk_) hb); replace BK302 := Aside0.mk (blk_below (g := gb302) (o := .cells #[.int .i64 t298, .int .u64 t299, .int .i64 t300] 24 (0, 0)) (by (with_reducible repeat (first | apply bN_ | apply bD_ | apply bA_)); refine blk_put (cs := #[.int .i64 t298, .int .u64 t299, .int .i64 0]) ?_ 2 _ rfl; (with_reducible repeat (first | apply bN_ | apply bD_ | apply bA_)); refine blk_put (cs := #[.int .i64 t298, .int .u64 0, .int .i64 0]) ?_ 1 _ rfl; (with_reducible repeat (first | apply bN_ | apply bD_ | apply bA_)); refine blk_put (cs := #[.int .i64 0, .int .u64 0, .int .i64 0]) ?_ 0 _ rfl; exact bk_) hb); replace HB := bl_ hb; (try clear hb); (try clear hb2); (try clear hk); (try clear hi)))
   go_ret
   exact ⟨vv_, bz_⟩
  ·rw [if_neg c162] at H
   have c162b0 : (t298 == 0 && (t299 == 0 && (t300 == 0))) = false := by simpa using c162
   (try (have c162b1 : decide (t298 = 0 && (t299 == 0 && (t300 == 0))) = false := by simpa using c162))
   (try (have c162b2 : (t298 == 0 && (t299 == 0 && (t300 == 0))) = false := by simpa using c162))
   (try (have c162b3 : ¬ (t298 = 0 && (t299 == 0 && (t300 == 0))) := by simpa using c162))
   clear c162
   exact absurd ((Option.some.inj H).trans HRT.out) (by decide)

end Go.Proofs.Ytnpbhippkcikoaa.PA
