-- PRINTED by print.py (a twelfth state) out of the translation. Not trusted: Lean checks it.
import Derived.Test.YtnpbhippkcikoaaWTab
import Derived.Test.YtnpbhippkcikoaaPA0
import Derived.Test.YtnpbhippkcikoaaSq
import Derived.Test.YtnpbhippkcikoaaPA1
import Derived.Test.YtnpbhippkcikoaaPA3
import Derived.Test.YtnpbhippkcikoaaPA4
import Derived.Test.YtnpbhippkcikoaaPA7
import Derived.Test.YtnpbhippkcikoaaPA8
import Derived.Test.YtnpbhippkcikoaaPA11
import Derived.Test.YtnpbhippkcikoaaPA15
import Derived.Test.YtnpbhippkcikoaaPA16
import Derived.Test.YtnpbhippkcikoaaPA20
namespace Go.Proofs.Ytnpbhippkcikoaa.PA
open Go.RowKit Go.Proofs.YtnpbhippkcikoaaW.PrintWords Go.Proofs.YtnpbhippkcikoaaW.PrintLast Go.Proofs.YtnpbhippkcikoaaW.PrintMore
attribute [local go_sem] max2_int min2_int max_two min_two max_three min_three max_four min_four   -- for this text's walks alone
set_option linter.unusedVariables false
set_option linter.unusedSimpArgs false

attribute [local go_sem high] eqA24
/-! ### lockgatelaw14_ValueMakes: function 3 -/
def lockgatelaw14_ValueMakes.f (k : Nat) (a0 : Int) (a1 : Bool) (a2_0 : Int) (a2_1 : Int) (a2_2 : Int) (a3_0 : Int) (a3_1 : Int) (a3_2 : Int) : Option (Bool) := (value_Alu.f k a0 a1 a2_0 a2_1 a2_2 a3_0 a3_1 a3_2).bind fun bt253 => ((lockgateref14_Alu.f k a0 a1 a2_0 a2_1 a2_2 a3_0 a3_1 a3_2).bind fun bt258 => (if (bt253.1 == bt258.1 && (bt253.2.1 == bt258.2.1 && (bt253.2.2.1 == bt258.2.2.1))) = true then (if bt253.2.2.2 = bt258.2.2.2 then ((value_Places.f a2_0 a2_1 a2_2).bind fun t263 => ((lockgateref14_Places.f a2_0 a2_1 a2_2).bind fun t264 => (if (t263 == t264) = true then ((value_Num.f a2_1).bind fun bt265 => ((lockgateref14_Num.f a2_1).bind fun bt268 => (if (bt265.1 == bt268.1 && (bt265.2.1 == bt268.2.1 && (bt265.2.2 == bt268.2.2))) = true then ((value_Code.f a0).bind fun bt271 => ((lockgateref14_Code.f a0).bind fun bt274 => (if (bt271.1 == bt274.1 && (bt271.2.1 == bt274.2.1 && (bt271.2.2 == bt274.2.2))) = true then ((lockgatelaw14_works.f k).bind fun t277 => (some t277)) else (some false)))) else (some false)))) else (some false)))) else (some false)) else (some false)))
theorem lockgatelaw14_ValueMakes.mono : ∀ a0 a1 a2 a3 a4 a5 a6 a7 k, LeO (lockgatelaw14_ValueMakes.f k a0 a1 a2 a3 a4 a5 a6 a7) (lockgatelaw14_ValueMakes.f (k + 1) a0 a1 a2 a3 a4 a5 a6 a7) := by
 intro a0 a1 a2 a3 a4 a5 a6 a7 k
 unfold lockgatelaw14_ValueMakes.f
 repeat' first
  | (with_reducible exact lockgatelaw14_works.mono _)
  | (with_reducible exact lockgateref14_Alu.mono _ _ _ _ _ _ _ _ _)
  | (with_reducible exact value_Alu.mono _ _ _ _ _ _ _ _ _)
  | (with_reducible exact LeO.refl _)
  | (with_reducible exact LeO.none _)
  | (with_reducible refine LeO.ite ?_ ?_)
  | (with_reducible refine LeO.bind ?_ (fun _ => ?_))
  | exact lockgatelaw14_works.mono _
  | exact lockgateref14_Alu.mono _ _ _ _ _ _ _ _ _
  | exact value_Alu.mono _ _ _ _ _ _ _ _ _
  | exact LeO.none _
  | refine LeO.ite ?_ ?_
  | refine LeO.bind ?_ (fun _ => ?_)
def lockgatelaw14_ValueMakes.T3 : Bool × List (List Nat × List Nat) := (true, [([], []), ([], []), ([0, 1], [0, 1]), ([2], [2]), ([3], [3]), ([3], [3]), ([4, 5, 3], [3, 4, 5]), ([3, 6], [3, 6]), ([7, 3], [7]), ([8], [8]), ([9, 8, 8], [8, 9]), ([8], [8]), ([11, 10, 8], [8, 11]), ([10, 12, 8], [8, 10, 12]), ([8, 13], [8, 13]), ([14, 12], [14]), ([15], [15]), ([16, 15], [15, 16]), ([17, 15, 15], [15, 17]), ([15], [15]), ([19, 15], [15, 19]), ([20, 18, 15], [15, 20]), ([18, 21, 15], [15, 18, 21]), ([15, 22], [15, 22]), ([23, 21], [23]), ([24], [24]), ([25, 24, 24], [24, 25]), ([24], [24]), ([27, 26, 24], [24, 27]), ([26, 28, 24], [24, 26, 28]), ([24, 29], [24, 29]), ([30, 28], [30]), ([31, 31], [31]), ([31, 32], [31, 32]), ([33, 32, 0, 1, 2, 3, 4, 5, 6, 7, 8, 9, 10, 11, 12, 13, 14, 15, 16, 17, 18, 19, 20, 21, 22, 23, 24, 25, 26, 27, 28, 29, 30, 31, 32, 33], [33])])
def lockgatelaw14_ValueMakes.B3 : List Nat := [0, 0, 3, 7, 15, 15, 63, 127, 255, 511, 1023, 511, 4095, 8191, 16383, 32767, 65535, 131071, 262143, 65535, 589823, 2097151, 4194303, 8388607, 16777215, 33554431, 67108863, 33554431, 268435455, 536870911, 1073741823, 2147483647, 4294967295, 8589934591, 17179869183]
theorem lockgatelaw14_ValueMakes.tab3 : rtab .any (opsOf Try.f3 3) = lockgatelaw14_ValueMakes.T3 := by kernel_rfl
theorem lockgatelaw14_ValueMakes.bits3 : waitsOk lockgatelaw14_ValueMakes.T3.2 lockgatelaw14_ValueMakes.B3 = true := by kernel_rfl
set_option maxHeartbeats 8000000 in
set_option maxRecDepth 100000 in
theorem lockgatelaw14_ValueMakes.calls (k : Nat) (a0 : Int) (a1 : Bool) (a2_0 : Int) (a2_1 : Int) (a2_2 : Int) (a3_0 : Int) (a3_1 : Int) (a3_2 : Int) (r : Bool) (w : World) (HRT : Aside0 (r = true)) (h : lockgatelaw14_ValueMakes.f k a0 a1 a2_0 a2_1 a2_2 a3_0 a3_1 a3_2 = some r) :
 Calls Try.prog 3 #[.int .i64 a0, .bool a1, .agg #[.int .i64 a2_0, .int .u64 a2_1, .int .i64 a2_2], .agg #[.int .i64 a3_0, .int .u64 a3_1, .int .i64 a3_2]] w fun e w' => e = .returned (.bool r) ∧ Below w.heap.size w w' := by
 have hu24 := Try.underlying24
 have HB := Aside0.mk (Below.refl w.heap.size w)
 have H : ((value_Alu.f k a0 a1 a2_0 a2_1 a2_2 a3_0 a3_1 a3_2).bind fun bt253 => ((lockgateref14_Alu.f k a0 a1 a2_0 a2_1 a2_2 a3_0 a3_1 a3_2).bind fun bt258 => (if (bt253.1 == bt258.1 && (bt253.2.1 == bt258.2.1 && (bt253.2.2.1 == bt258.2.2.1))) = true then (if bt253.2.2.2 = bt258.2.2.2 then ((value_Places.f a2_0 a2_1 a2_2).bind fun t263 => ((lockgateref14_Places.f a2_0 a2_1 a2_2).bind fun t264 => (if (t263 == t264) = true then ((value_Num.f a2_1).bind fun bt265 => ((lockgateref14_Num.f a2_1).bind fun bt268 => (if (bt265.1 == bt268.1 && (bt265.2.1 == bt268.2.1 && (bt265.2.2 == bt268.2.2))) = true then ((value_Code.f a0).bind fun bt271 => ((lockgateref14_Code.f a0).bind fun bt274 => (if (bt271.1 == bt274.1 && (bt271.2.1 == bt274.2.1 && (bt271.2.2 == bt274.2.2))) = true then ((lockgatelaw14_works.f k).bind fun t277 => (some t277)) else (some false)))) else (some false)))) else (some false)))) else (some false)) else (some false)))) = some r := h
 clear h
 replace H := Option.bind_eq_some_iff.mp H
 obtain ⟨⟨t253, t254, t255, t256⟩, A50, H⟩ := H
 replace H : ((lockgateref14_Alu.f k a0 a1 a2_0 a2_1 a2_2 a3_0 a3_1 a3_2).bind fun bt258 => (if (t253 == bt258.1 && (t254 == bt258.2.1 && (t255 == bt258.2.2.1))) = true then (if t256 = bt258.2.2.2 then ((value_Places.f a2_0 a2_1 a2_2).bind fun t263 => ((lockgateref14_Places.f a2_0 a2_1 a2_2).bind fun t264 => (if (t263 == t264) = true then ((value_Num.f a2_1).bind fun bt265 => ((lockgateref14_Num.f a2_1).bind fun bt268 => (if (bt265.1 == bt268.1 && (bt265.2.1 == bt268.2.1 && (bt265.2.2 == bt268.2.2))) = true then ((value_Code.f a0).bind fun bt271 => ((lockgateref14_Code.f a0).bind fun bt274 => (if (bt271.1 == bt274.1 && (bt271.2.1 == bt274.2.1 && (bt271.2.2 == bt274.2.2))) = true then ((lockgatelaw14_works.f k).bind fun t277 => (some t277)) else (some false)))) else (some false)))) else (some false)))) else (some false)) else (some false))) = some r := H
 have A5 := Aside0.mk A50
 clear A50
 replace H := Option.bind_eq_some_iff.mp H
 obtain ⟨⟨t258, t259, t260, t261⟩, A60, H⟩ := H
 replace H : (if (t253 == t258 && (t254 == t259 && (t255 == t260))) = true then (if t256 = t261 then ((value_Places.f a2_0 a2_1 a2_2).bind fun t263 => ((lockgateref14_Places.f a2_0 a2_1 a2_2).bind fun t264 => (if (t263 == t264) = true then ((value_Num.f a2_1).bind fun bt265 => ((lockgateref14_Num.f a2_1).bind fun bt268 => (if (bt265.1 == bt268.1 && (bt265.2.1 == bt268.2.1 && (bt265.2.2 == bt268.2.2))) = true then ((value_Code.f a0).bind fun bt271 => ((lockgateref14_Code.f a0).bind fun bt274 => (if (bt271.1 == bt274.1 && (bt271.2.1 == bt274.2.1 && (bt271.2.2 == bt274.2.2))) = true then ((lockgatelaw14_works.f k).bind fun t277 => (some t277)) else (some false)))) else (some false)))) else (some false)))) else (some false)) else (some false)) = some r := H
 have A6 := Aside0.mk A60
 clear A60
 by_cases c7 : (t253 == t258 && (t254 == t259 && (t255 == t260))) = true
 ·rw [if_pos c7] at H
  have c7b0 : (t253 == t258 && (t254 == t259 && (t255 == t260))) = true := c7
  (try (have c7b1 : decide (t253 = t258 && (t254 == t259 && (t255 == t260))) = true := by simpa using c7))
  (try (have c7b2 : (t253 == t258 && (t254 == t259 && (t255 == t260))) = true := by simpa using c7))
  clear c7
  by_cases c8 : t256 = t261
  ·rw [if_pos c8] at H
   have c8b0 : (t256 == t261) = true := beq_iff_eq.mpr c8
   have c8b1 : (t256 != t261) = false := bne_eq_false_iff_eq.mpr c8
   clear c8
   replace H := Option.bind_eq_some_iff.mp H
   obtain ⟨t263, A90, H⟩ := H
   replace H : ((lockgateref14_Places.f a2_0 a2_1 a2_2).bind fun t264 => (if (t263 == t264) = true then ((value_Num.f a2_1).bind fun bt265 => ((lockgateref14_Num.f a2_1).bind fun bt268 => (if (bt265.1 == bt268.1 && (bt265.2.1 == bt268.2.1 && (bt265.2.2 == bt268.2.2))) = true then ((value_Code.f a0).bind fun bt271 => ((lockgateref14_Code.f a0).bind fun bt274 => (if (bt271.1 == bt274.1 && (bt271.2.1 == bt274.2.1 && (bt271.2.2 == bt274.2.2))) = true then ((lockgatelaw14_works.f k).bind fun t277 => (some t277)) else (some false)))) else (some false)))) else (some false))) = some r := H
   have A9 := Aside0.mk A90
   clear A90
   replace H := Option.bind_eq_some_iff.mp H
   obtain ⟨t264, A100, H⟩ := H
   replace H : (if (t263 == t264) = true then ((value_Num.f a2_1).bind fun bt265 => ((lockgateref14_Num.f a2_1).bind fun bt268 => (if (bt265.1 == bt268.1 && (bt265.2.1 == bt268.2.1 && (bt265.2.2 == bt268.2.2))) = true then ((value_Code.f a0).bind fun bt271 => ((lockgateref14_Code.f a0).bind fun bt274 => (if (bt271.1 == bt274.1 && (bt271.2.1 == bt274.2.1 && (bt271.2.2 == bt274.2.2))) = true then ((lockgatelaw14_works.f k).bind fun t277 => (some t277)) else (some false)))) else (some false)))) else (some false)) = some r := H
   have A10 := Aside0.mk A100
   clear A100
   by_cases c11 : (t263 == t264) = true
   ·rw [if_pos c11] at H
    have c11b0 : (t263 == t264) = true := c11
    (try (have c11b1 : decide (t263 = t264) = true := by simpa using c11))
    (try (have c11b2 : (t263 == t264) = true := by simpa using c11))
    clear c11
    replace H := Option.bind_eq_some_iff.mp H
    obtain ⟨⟨t265, t266, t267⟩, A120, H⟩ := H
    replace H : ((lockgateref14_Num.f a2_1).bind fun bt268 => (if (t265 == bt268.1 && (t266 == bt268.2.1 && (t267 == bt268.2.2))) = true then ((value_Code.f a0).bind fun bt271 => ((lockgateref14_Code.f a0).bind fun bt274 => (if (bt271.1 == bt274.1 && (bt271.2.1 == bt274.2.1 && (bt271.2.2 == bt274.2.2))) = true then ((lockgatelaw14_works.f k).bind fun t277 => (some t277)) else (some false)))) else (some false))) = some r := H
    have A12 := Aside0.mk A120
    clear A120
    replace H := Option.bind_eq_some_iff.mp H
    obtain ⟨⟨t268, t269, t270⟩, A130, H⟩ := H
    replace H : (if (t265 == t268 && (t266 == t269 && (t267 == t270))) = true then ((value_Code.f a0).bind fun bt271 => ((lockgateref14_Code.f a0).bind fun bt274 => (if (bt271.1 == bt274.1 && (bt271.2.1 == bt274.2.1 && (bt271.2.2 == bt274.2.2))) = true then ((lockgatelaw14_works.f k).bind fun t277 => (some t277)) else (some false)))) else (some false)) = some r := H
    have A13 := Aside0.mk A130
    clear A130
    by_cases c14 : (t265 == t268 && (t266 == t269 && (t267 == t270))) = true
    ·rw [if_pos c14] at H
     have c14b0 : (t265 == t268 && (t266 == t269 && (t267 == t270))) = true := c14
     (try (have c14b1 : decide (t265 = t268 && (t266 == t269 && (t267 == t270))) = true := by simpa using c14))
     (try (have c14b2 : (t265 == t268 && (t266 == t269 && (t267 == t270))) = true := by simpa using c14))
     clear c14
     replace H := Option.bind_eq_some_iff.mp H
     obtain ⟨⟨t271, t272, t273⟩, A150, H⟩ := H
     replace H : ((lockgateref14_Code.f a0).bind fun bt274 => (if (t271 == bt274.1 && (t272 == bt274.2.1 && (t273 == bt274.2.2))) = true then ((lockgatelaw14_works.f k).bind fun t277 => (some t277)) else (some false))) = some r := H
     have A15 := Aside0.mk A150
     clear A150
     replace H := Option.bind_eq_some_iff.mp H
     obtain ⟨⟨t274, t275, t276⟩, A160, H⟩ := H
     replace H : (if (t271 == t274 && (t272 == t275 && (t273 == t276))) = true then ((lockgatelaw14_works.f k).bind fun t277 => (some t277)) else (some false)) = some r := H
     have A16 := Aside0.mk A160
     clear A160
     by_cases c17 : (t271 == t274 && (t272 == t275 && (t273 == t276))) = true
     ·rw [if_pos c17] at H
      have c17b0 : (t271 == t274 && (t272 == t275 && (t273 == t276))) = true := c17
      (try (have c17b1 : decide (t271 = t274 && (t272 == t275 && (t273 == t276))) = true := by simpa using c17))
      (try (have c17b2 : (t271 == t274 && (t272 == t275 && (t273 == t276))) = true := by simpa using c17))
      clear c17
      replace H := Option.bind_eq_some_iff.mp H
      obtain ⟨t277, A180, H⟩ := H
      replace H : (some t277) = some r := H
      have A18 := Aside0.mk A180
      clear A180
      obtain rfl := Option.some.inj H
      go_enter Try.func3, Try.ntmps3
      try go_wp2_with (first | ((with_reducible refine gate_dst (N := 6) rfl ?_); refine bx_ 6 #[.int .i64 a2_0, .int .u64 a2_1, .int .i64 a2_2] 24 ?_; intro gb251 hg w19 BK251 hb; have GW251 := bg_ hg; have GE251 := GW251; replace HB := bl_ hb; clear hb hg) | ((with_reducible refine gate_dst (N := 7) rfl ?_); refine bx_ 7 #[.int .i64 a3_0, .int .u64 a3_1, .int .i64 a3_2] 24 ?_; intro gb252 hg w20 BK252 hb; have GW252 := bg_ hg; have GE252 := GW252; have NB251_252 := bm_ hg BK251; have NB252_251 := bn_ hg BK251; replace BK251 := bb_ hb BK251; replace HB := bl_ hb; clear hb hg; have hnb21 := NB251_252.out; have hnc21 := NB252_251.out; obtain ⟨zc22_0, zc22_1, zc22_2, zf22_0, zf22_1, zf22_2⟩ := k3_ BK251; obtain ⟨zc23_0, zc23_1, zc23_2, zf23_0, zf23_1, zf23_2⟩ := k3_ BK252) | ((with_reducible refine gate_callee (f := 11) rfl ?_); refine gM_ 18 Try.func11 (value_Alu.calls k a0 a1 a2_0 a2_1 a2_2 a3_0 a3_1 a3_2 t253 t254 t255 t256 _ A5.out) ?_; intro w24 hb; replace BK251 := bb_ hb BK251; replace BK252 := bb_ hb BK252; replace HB := bl_ hb; (try clear hb); (try clear hb2); (try clear hk); (try clear hi)) | ((with_reducible refine gate_dst (N := 9) rfl ?_); refine bx_ 9 #[.int .i64 0, .int .u64 0, .int .i64 0] 24 ?_; intro gb257 hg w25 BK257 hb; have GW257 := bg_ hg; have GE257 := GW257; have NB251_257 := bm_ hg BK251; have NB257_251 := bn_ hg BK251; have NB252_257 := bm_ hg BK252; have NB257_252 := bn_ hg BK252; replace BK251 := bb_ hb BK251; replace BK252 := bb_ hb BK252; replace HB := bl_ hb; clear hb hg; have hnb26 := NB257_251.out; have hnc26 := NB251_257.out; have hnb27 := NB257_252.out; have hnc27 := NB252_257.out; obtain ⟨zc28_0, zc28_1, zc28_2, zf28_0, zf28_1, zf28_2⟩ := k3_ BK257; obtain ⟨zc29_0, zc29_1, zc29_2, zf29_0, zf29_1, zf29_2⟩ := k3_ BK251; obtain ⟨zc30_0, zc30_1, zc30_2, zf30_0, zf30_1, zf30_2⟩ := k3_ BK252) | ((with_reducible refine gate_callee (f := 12) rfl ?_); refine gM_ 26 Try.func12 (lockgateref14_Alu.calls k a0 a1 a2_0 a2_1 a2_2 a3_0 a3_1 a3_2 t258 t259 t260 t261 _ A6.out) ?_; intro w31 hb; replace BK251 := Aside0.mk (blk_below (g := gb251) (o := .cells #[.int .i64 a2_0, .int .u64 a2_1, .int .i64 a2_2] 24 (0, 0)) (by (with_reducible repeat (first | apply bN_ | apply bD_ | apply bA_)); refine blk_far ?_ NB251_257.out _; (with_reducible repeat (first | apply bN_ | apply bD_ | apply bA_)); refine blk_far ?_ NB251_257.out _; (with_reducible repeat (first | apply bN_ | apply bD_ | apply bA_)); refine blk_far ?_ NB251_257.out _; exact bk_) hb); replace BK252 := Aside0.mk (blk_below (g := gb252) (o := .cells #[.int .i64 a3_0, .int .u64 a3_1, .int .i64 a3_2] 24 (0, 0)) (by (with_reducible repeat (first | apply bN_ | apply bD_ | apply bA_)); refine blk_far ?_ NB252_257.out _; (with_reducible repeat (first | apply bN_ | apply bD_ | apply bA_)); refine blk_far ?_ NB252_257.out _; (with_reducible repeat (first | apply bN_ | apply bD_ | apply bA_)); refine blk_far ?_ NB252_257.out _; exact bk_) hb); replace BK257 := Aside0.mk (blk_below (g := gb257) (o := .cells #[.int .i64 t253, .int .u64 t254, .int .i64 t255] 24 (0, 0)) (by (with_reducible repeat (first | apply bN_ | apply bD_ | apply bA_)); refine blk_put (cs := #[.int .i64 t253, .int .u64 t254, .int .i64 0]) ?_ 2 _ rfl; (with_reducible repeat (first | apply bN_ | apply bD_ | apply bA_)); refine blk_put (cs := #[.int .i64 t253, .int .u64 0, .int .i64 0]) ?_ 1 _ rfl; (with_reducible repeat (first | apply bN_ | apply bD_ | apply bA_)); refine blk_put (cs := #[.int .i64 0, .int .u64 0, .int .i64 0]) ?_ 0 _ rfl; exact bk_) hb); replace HB := bl_ hb; (try clear hb); (try clear hb2); (try clear hk); (try clear hi)) | ((with_reducible refine gate_dst (N := 11) rfl ?_); refine bx_ 11 #[.int .i64 0, .int .u64 0, .int .i64 0] 24 ?_; intro gb262 hg w32 BK262 hb; have GW262 := bg_ hg; have GE262 := GW262; have NB251_262 := bm_ hg BK251; have NB262_251 := bn_ hg BK251; have NB252_262 := bm_ hg BK252; have NB262_252 := bn_ hg BK252; have NB257_262 := bm_ hg BK257; have NB262_257 := bn_ hg BK257; replace BK251 := bb_ hb BK251; replace BK252 := bb_ hb BK252; replace BK257 := bb_ hb BK257; replace HB := bl_ hb; clear hb hg; have hnb33 := NB262_251.out; have hnc33 := NB251_262.out; have hnb34 := NB262_252.out; have hnc34 := NB252_262.out; have hnb35 := NB262_257.out; have hnc35 := NB257_262.out; obtain ⟨zc36_0, zc36_1, zc36_2, zf36_0, zf36_1, zf36_2⟩ := k3_ BK262))
      have n0_ : Aside0 ((((w32.setCell ⟨gb262, 0, none⟩ (.int .i64 t258)).setCell ⟨gb262, 1, none⟩ (.int .u64 t259)).setCell ⟨gb262, 2, none⟩ (.int .i64 t260)).heap[gb251]? = some (.cells #[.int .i64 a2_0, .int .u64 a2_1, .int .i64 a2_2] 24 (0, 0))) := ⟨by (with_reducible repeat (first | apply bN_ | apply bD_ | apply bA_)); refine blk_far ?_ NB251_262.out _; (with_reducible repeat (first | apply bN_ | apply bD_ | apply bA_)); refine blk_far ?_ NB251_262.out _; (with_reducible repeat (first | apply bN_ | apply bD_ | apply bA_)); refine blk_far ?_ NB251_262.out _; exact bk_⟩
      have n1_ : Aside0 ((((w32.setCell ⟨gb262, 0, none⟩ (.int .i64 t258)).setCell ⟨gb262, 1, none⟩ (.int .u64 t259)).setCell ⟨gb262, 2, none⟩ (.int .i64 t260)).heap[gb252]? = some (.cells #[.int .i64 a3_0, .int .u64 a3_1, .int .i64 a3_2] 24 (0, 0))) := ⟨by (with_reducible repeat (first | apply bN_ | apply bD_ | apply bA_)); refine blk_far ?_ NB252_262.out _; (with_reducible repeat (first | apply bN_ | apply bD_ | apply bA_)); refine blk_far ?_ NB252_262.out _; (with_reducible repeat (first | apply bN_ | apply bD_ | apply bA_)); refine blk_far ?_ NB252_262.out _; exact bk_⟩
      have n2_ : Aside0 ((((w32.setCell ⟨gb262, 0, none⟩ (.int .i64 t258)).setCell ⟨gb262, 1, none⟩ (.int .u64 t259)).setCell ⟨gb262, 2, none⟩ (.int .i64 t260)).heap[gb257]? = some (.cells #[.int .i64 t253, .int .u64 t254, .int .i64 t255] 24 (0, 0))) := ⟨by (with_reducible repeat (first | apply bN_ | apply bD_ | apply bA_)); refine blk_far ?_ NB257_262.out _; (with_reducible repeat (first | apply bN_ | apply bD_ | apply bA_)); refine blk_far ?_ NB257_262.out _; (with_reducible repeat (first | apply bN_ | apply bD_ | apply bA_)); refine blk_far ?_ NB257_262.out _; exact bk_⟩
      have n3_ : Aside0 ((((w32.setCell ⟨gb262, 0, none⟩ (.int .i64 t258)).setCell ⟨gb262, 1, none⟩ (.int .u64 t259)).setCell ⟨gb262, 2, none⟩ (.int .i64 t260)).heap[gb262]? = some (.cells #[.int .i64 t258, .int .u64 t259, .int .i64 t260] 24 (0, 0))) := ⟨by (with_reducible repeat (first | apply bN_ | apply bD_ | apply bA_)); refine blk_put (cs := #[.int .i64 t258, .int .u64 t259, .int .i64 0]) ?_ 2 _ rfl; (with_reducible repeat (first | apply bN_ | apply bD_ | apply bA_)); refine blk_put (cs := #[.int .i64 t258, .int .u64 0, .int .i64 0]) ?_ 1 _ rfl; (with_reducible repeat (first | apply bN_ | apply bD_ | apply bA_)); refine blk_put (cs := #[.int .i64 0, .int .u64 0, .int .i64 0]) ?_ 0 _ rfl; exact bk_⟩
      have n4_ : Aside0 (Below w.heap.size w (((w32.setCell ⟨gb262, 0, none⟩ (.int .i64 t258)).setCell ⟨gb262, 1, none⟩ (.int .u64 t259)).setCell ⟨gb262, 2, none⟩ (.int .i64 t260))) := ⟨bz_⟩
      (try clear BK251)
      (try clear BK252)
      (try clear BK257)
      (try clear BK262)
      (try clear HB)
      generalize (((w32.setCell ⟨gb262, 0, none⟩ (.int .i64 t258)).setCell ⟨gb262, 1, none⟩ (.int .u64 t259)).setCell ⟨gb262, 2, none⟩ (.int .i64 t260)) = w37 at n0_ n1_ n2_ n3_ n4_ ⊢
      have BK251 := n0_
      have BK252 := n1_
      have BK257 := n2_
      have BK262 := n3_
      have HB := n4_
      clear n0_ n1_ n2_ n3_ n4_
      replace BK251 := Aside0.mk (blk_drew BK251.out)
      replace BK252 := Aside0.mk (blk_drew BK252.out)
      replace BK257 := Aside0.mk (blk_drew BK257.out)
      replace BK262 := Aside0.mk (blk_drew BK262.out)
      replace HB := Aside0.mk (below_drew1 HB.out)
      refine start_ (n := 35) (S := fun w' => w'.cell? ⟨gb257, 0, none⟩ = some (.int .i64 t253) ∧ w'.cell? ⟨gb257, 1, none⟩ = some (.int .u64 t254) ∧ w'.cell? ⟨gb257, 2, none⟩ = some (.int .i64 t255) ∧ w'.cell? ⟨gb262, 0, none⟩ = some (.int .i64 t258) ∧ w'.cell? ⟨gb262, 1, none⟩ = some (.int .u64 t259) ∧ w'.cell? ⟨gb262, 2, none⟩ = some (.int .i64 t260) ∧ w'.cell? ⟨gb251, 0, none⟩ = some (.int .i64 a2_0) ∧ w'.cell? ⟨gb251, 1, none⟩ = some (.int .u64 a2_1) ∧ w'.cell? ⟨gb251, 2, none⟩ = some (.int .i64 a2_2)) (ds := []) #[n_,n_,n_,n_,n_,n_,n_,n_,n_,n_,n_,n_,n_,n_,n_,n_,n_,n_,n_,n_,n_,n_,n_,n_,n_,n_,n_,n_,n_,n_,n_,n_,n_,n_,n_] (by kernel_rfl) rfl rfl ⟨c0_ BK257, c1_ BK257, c2_ BK257, c0_ BK262, c1_ BK262, c2_ BK262, c0_ BK251, c1_ BK251, c2_ BK251⟩ (fun hHeld => ?_); refine with_tabW lockgatelaw14_ValueMakes.tab3 lockgatelaw14_ValueMakes.bits3 (fun HT_ HW_ => ?_)
      generalize w37.drew = w38 at BK251 BK252 BK257 BK262 HB hHeld ⊢
      refine tq0_ 0 29 #[y_,n_,n_,n_,n_,n_,n_,n_,n_,n_,n_,n_,n_,n_,n_,n_,n_,n_,n_,n_,n_,n_,n_,n_,n_,n_,n_,n_,n_,n_,n_,n_,n_,n_,n_] hHeld ?_
      refine tq0_ 1 30 #[y_,y_,n_,n_,n_,n_,n_,n_,n_,n_,n_,n_,n_,n_,n_,n_,n_,n_,n_,n_,n_,n_,n_,n_,n_,n_,n_,n_,n_,n_,n_,n_,n_,n_,n_] hHeld ?_
      refine pq_ 2 31 #[y_,y_,y_,n_,n_,n_,n_,n_,n_,n_,n_,n_,n_,n_,n_,n_,n_,n_,n_,n_,n_,n_,n_,n_,n_,n_,n_,n_,n_,n_,n_,n_,n_,n_,n_] ?_
      refine pq_ 3 32 #[y_,y_,y_,y_,n_,n_,n_,n_,n_,n_,n_,n_,n_,n_,n_,n_,n_,n_,n_,n_,n_,n_,n_,n_,n_,n_,n_,n_,n_,n_,n_,n_,n_,n_,n_] ?_
      refine pq_ 4 33 #[y_,y_,y_,y_,y_,n_,n_,n_,n_,n_,n_,n_,n_,n_,n_,n_,n_,n_,n_,n_,n_,n_,n_,n_,n_,n_,n_,n_,n_,n_,n_,n_,n_,n_,n_] ?_
      refine pq_ 5 34 #[y_,y_,y_,y_,y_,y_,n_,n_,n_,n_,n_,n_,n_,n_,n_,n_,n_,n_,n_,n_,n_,n_,n_,n_,n_,n_,n_,n_,n_,n_,n_,n_,n_,n_,n_] ?_
      refine pq_ 6 35 #[y_,y_,y_,y_,y_,y_,y_,n_,n_,n_,n_,n_,n_,n_,n_,n_,n_,n_,n_,n_,n_,n_,n_,n_,n_,n_,n_,n_,n_,n_,n_,n_,n_,n_,n_] ?_
      refine pq_ 7 36 #[y_,y_,y_,y_,y_,y_,y_,y_,n_,n_,n_,n_,n_,n_,n_,n_,n_,n_,n_,n_,n_,n_,n_,n_,n_,n_,n_,n_,n_,n_,n_,n_,n_,n_,n_] ?_
      refine pq_ 8 37 #[y_,y_,y_,y_,y_,y_,y_,y_,y_,n_,n_,n_,n_,n_,n_,n_,n_,n_,n_,n_,n_,n_,n_,n_,n_,n_,n_,n_,n_,n_,n_,n_,n_,n_,n_] ?_
      refine tq0_ 9 38 #[y_,y_,y_,y_,y_,y_,y_,y_,y_,y_,n_,n_,n_,n_,n_,n_,n_,n_,n_,n_,n_,n_,n_,n_,n_,n_,n_,n_,n_,n_,n_,n_,n_,n_,n_] hHeld ?_
      refine tq0_ 11 40 #[y_,y_,y_,y_,y_,y_,y_,y_,y_,y_,n_,y_,n_,n_,n_,n_,n_,n_,n_,n_,n_,n_,n_,n_,n_,n_,n_,n_,n_,n_,n_,n_,n_,n_,n_] hHeld ?_
      refine one_ (i := 10) (N := some 39) #[y_,y_,y_,y_,y_,y_,y_,y_,y_,y_,y_,y_,n_,n_,n_,n_,n_,n_,n_,n_,n_,n_,n_,n_,n_,n_,n_,n_,n_,n_,n_,n_,n_,n_,n_] rfl rfl (one_of HT_.out (by kernel_rfl)) (by decide) (fun K hK => ?_)
      refine goes_ Try.func13 (by kernel_rfl) rfl #[.agg #[.int .i64 a2_0, .int .u64 a2_1, .int .i64 a2_2]] (by rfl) rfl rfl mp_ ?_
      with_reducible refine (value_Places.calls a2_0 a2_1 a2_2 t263 _ A9.out).mono ?_
      rintro e w39 ⟨rfl, hb⟩
      refine ⟨_, rfl, ?_⟩
      replace BK251 := bb_ hb BK251
      replace BK252 := bb_ hb BK252
      replace BK257 := bb_ hb BK257
      replace BK262 := bb_ hb BK262
      replace HB := bl_ hb
      try clear hb
      refine hK.out _ _ ⟨c0_ BK257, c1_ BK257, c2_ BK257, c0_ BK262, c1_ BK262, c2_ BK262, c0_ BK251, c1_ BK251, c2_ BK251⟩ (fun hHeld => ?_)
      clear hK K
      refine norm_ (a' := ?_) ?_ ?_
      rotate_left
      ·show Act.put _ (some 39) _ = _
       simp only [Act.put, s1_, s2_, s3_, i64_w, i32_w]
       rfl
      refine one_ (i := 12) (N := some 41) #[y_,y_,y_,y_,y_,y_,y_,y_,y_,y_,y_,y_,y_,n_,n_,n_,n_,n_,n_,n_,n_,n_,n_,n_,n_,n_,n_,n_,n_,n_,n_,n_,n_,n_,n_] rfl rfl (one_of HT_.out (by kernel_rfl)) (by decide) (fun K hK => ?_)
      refine goes_ Try.func14 (by kernel_rfl) rfl #[.agg #[.int .i64 a2_0, .int .u64 a2_1, .int .i64 a2_2]] (by rfl) rfl rfl mp_ ?_
      with_reducible refine (lockgateref14_Places.calls a2_0 a2_1 a2_2 t264 _ A10.out).mono ?_
      rintro e w40 ⟨rfl, hb⟩
      refine ⟨_, rfl, ?_⟩
      replace BK251 := bb_ hb BK251
      replace BK252 := bb_ hb BK252
      replace BK257 := bb_ hb BK257
      replace BK262 := bb_ hb BK262
      replace HB := bl_ hb
      try clear hb
      refine hK.out _ _ ⟨c0_ BK257, c1_ BK257, c2_ BK257, c0_ BK262, c1_ BK262, c2_ BK262, c0_ BK251, c1_ BK251, c2_ BK251⟩ (fun hHeld => ?_)
      clear hK K
      refine norm_ (a' := ?_) ?_ ?_
      rotate_left
      ·show Act.put _ (some 41) _ = _
       simp only [Act.put, s1_, s2_, s3_, i64_w, i32_w]
       rfl
      refine pq_ 13 42 #[y_,y_,y_,y_,y_,y_,y_,y_,y_,y_,y_,y_,y_,y_,n_,n_,n_,n_,n_,n_,n_,n_,n_,n_,n_,n_,n_,n_,n_,n_,n_,n_,n_,n_,n_] ?_
      refine pq_ 14 43 #[y_,y_,y_,y_,y_,y_,y_,y_,y_,y_,y_,y_,y_,y_,y_,n_,n_,n_,n_,n_,n_,n_,n_,n_,n_,n_,n_,n_,n_,n_,n_,n_,n_,n_,n_] ?_
      refine pq_ 15 44 #[y_,y_,y_,y_,y_,y_,y_,y_,y_,y_,y_,y_,y_,y_,y_,y_,n_,n_,n_,n_,n_,n_,n_,n_,n_,n_,n_,n_,n_,n_,n_,n_,n_,n_,n_] ?_
      refine pq_ 16 45 #[y_,y_,y_,y_,y_,y_,y_,y_,y_,y_,y_,y_,y_,y_,y_,y_,y_,n_,n_,n_,n_,n_,n_,n_,n_,n_,n_,n_,n_,n_,n_,n_,n_,n_,n_] ?_
      refine pq_ 19 48 #[y_,y_,y_,y_,y_,y_,y_,y_,y_,y_,y_,y_,y_,y_,y_,y_,y_,n_,n_,y_,n_,n_,n_,n_,n_,n_,n_,n_,n_,n_,n_,n_,n_,n_,n_] ?_
      refine tq0_ 17 46 #[y_,y_,y_,y_,y_,y_,y_,y_,y_,y_,y_,y_,y_,y_,y_,y_,y_,y_,n_,y_,n_,n_,n_,n_,n_,n_,n_,n_,n_,n_,n_,n_,n_,n_,n_] hHeld ?_
      refine tq0_ 20 49 #[y_,y_,y_,y_,y_,y_,y_,y_,y_,y_,y_,y_,y_,y_,y_,y_,y_,y_,n_,y_,y_,n_,n_,n_,n_,n_,n_,n_,n_,n_,n_,n_,n_,n_,n_] hHeld ?_
      refine one_ (i := 18) (N := some 47) #[y_,y_,y_,y_,y_,y_,y_,y_,y_,y_,y_,y_,y_,y_,y_,y_,y_,y_,y_,y_,y_,n_,n_,n_,n_,n_,n_,n_,n_,n_,n_,n_,n_,n_,n_] rfl rfl (one_of HT_.out (by kernel_rfl)) (by decide) (fun K hK => ?_)
      refine goes_ Try.func15 (by kernel_rfl) rfl #[.int .u64 a2_1] (by rfl) rfl rfl mp_ ?_
      with_reducible refine (value_Num.calls a2_1 t265 t266 t267 _ A12.out).mono ?_
      rintro e w41 ⟨rfl, hb⟩
      refine ⟨_, rfl, ?_⟩
      replace BK251 := bb_ hb BK251
      replace BK252 := bb_ hb BK252
      replace BK257 := bb_ hb BK257
      replace BK262 := bb_ hb BK262
      replace HB := bl_ hb
      try clear hb
      refine hK.out _ _ ⟨c0_ BK257, c1_ BK257, c2_ BK257, c0_ BK262, c1_ BK262, c2_ BK262, c0_ BK251, c1_ BK251, c2_ BK251⟩ (fun hHeld => ?_)
      clear hK K
      refine norm_ (a' := ?_) ?_ ?_
      rotate_left
      ·show Act.put _ (some 47) _ = _
       simp only [Act.put, s1_, s2_, s3_, i64_w, i32_w]
       rfl
      refine one_ (i := 21) (N := some 50) #[y_,y_,y_,y_,y_,y_,y_,y_,y_,y_,y_,y_,y_,y_,y_,y_,y_,y_,y_,y_,y_,y_,n_,n_,n_,n_,n_,n_,n_,n_,n_,n_,n_,n_,n_] rfl rfl (one_of HT_.out (by kernel_rfl)) (by decide) (fun K hK => ?_)
      refine goes_ Try.func16 (by kernel_rfl) rfl #[.int .u64 a2_1] (by rfl) rfl rfl mp_ ?_
      with_reducible refine (lockgateref14_Num.calls a2_1 t268 t269 t270 _ A13.out).mono ?_
      rintro e w42 ⟨rfl, hb⟩
      refine ⟨_, rfl, ?_⟩
      replace BK251 := bb_ hb BK251
      replace BK252 := bb_ hb BK252
      replace BK257 := bb_ hb BK257
      replace BK262 := bb_ hb BK262
      replace HB := bl_ hb
      try clear hb
      refine hK.out _ _ ⟨c0_ BK257, c1_ BK257, c2_ BK257, c0_ BK262, c1_ BK262, c2_ BK262, c0_ BK251, c1_ BK251, c2_ BK251⟩ (fun hHeld => ?_)
      clear hK K
      refine norm_ (a' := ?_) ?_ ?_
      rotate_left
      ·show Act.put _ (some 50) _ = _
       simp only [Act.put, s1_, s2_, s3_, i64_w, i32_w]
       rfl
      refine pq_ 22 51 #[y_,y_,y_,y_,y_,y_,y_,y_,y_,y_,y_,y_,y_,y_,y_,y_,y_,y_,y_,y_,y_,y_,y_,n_,n_,n_,n_,n_,n_,n_,n_,n_,n_,n_,n_] ?_
      refine pq_ 23 52 #[y_,y_,y_,y_,y_,y_,y_,y_,y_,y_,y_,y_,y_,y_,y_,y_,y_,y_,y_,y_,y_,y_,y_,y_,n_,n_,n_,n_,n_,n_,n_,n_,n_,n_,n_] ?_
      refine pq_ 24 53 #[y_,y_,y_,y_,y_,y_,y_,y_,y_,y_,y_,y_,y_,y_,y_,y_,y_,y_,y_,y_,y_,y_,y_,y_,y_,n_,n_,n_,n_,n_,n_,n_,n_,n_,n_] ?_
      refine pq_ 25 54 #[y_,y_,y_,y_,y_,y_,y_,y_,y_,y_,y_,y_,y_,y_,y_,y_,y_,y_,y_,y_,y_,y_,y_,y_,y_,y_,n_,n_,n_,n_,n_,n_,n_,n_,n_] ?_
      refine pq_ 27 56 #[y_,y_,y_,y_,y_,y_,y_,y_,y_,y_,y_,y_,y_,y_,y_,y_,y_,y_,y_,y_,y_,y_,y_,y_,y_,y_,n_,y_,n_,n_,n_,n_,n_,n_,n_] ?_
      refine one_ (i := 26) (N := some 55) #[y_,y_,y_,y_,y_,y_,y_,y_,y_,y_,y_,y_,y_,y_,y_,y_,y_,y_,y_,y_,y_,y_,y_,y_,y_,y_,y_,y_,n_,n_,n_,n_,n_,n_,n_] rfl rfl (one_of HT_.out (by kernel_rfl)) (by decide) (fun K hK => ?_)
      refine goes_ Try.func17 (by kernel_rfl) rfl #[.int .i64 a0] (by rfl) rfl rfl mp_ ?_
      with_reducible refine (value_Code.calls a0 t271 t272 t273 _ A15.out).mono ?_
      rintro e w43 ⟨rfl, hb⟩
      refine ⟨_, rfl, ?_⟩
      replace BK251 := bb_ hb BK251
      replace BK252 := bb_ hb BK252
      replace BK257 := bb_ hb BK257
      replace BK262 := bb_ hb BK262
      replace HB := bl_ hb
      try clear hb
      refine hK.out _ _ ⟨c0_ BK257, c1_ BK257, c2_ BK257, c0_ BK262, c1_ BK262, c2_ BK262, c0_ BK251, c1_ BK251, c2_ BK251⟩ (fun hHeld => ?_)
      clear hK K
      refine norm_ (a' := ?_) ?_ ?_
      rotate_left
      ·show Act.put _ (some 55) _ = _
       simp only [Act.put, s1_, s2_, s3_, i64_w, i32_w]
       rfl
      refine one_ (i := 28) (N := some 57) #[y_,y_,y_,y_,y_,y_,y_,y_,y_,y_,y_,y_,y_,y_,y_,y_,y_,y_,y_,y_,y_,y_,y_,y_,y_,y_,y_,y_,y_,n_,n_,n_,n_,n_,n_] rfl rfl (one_of HT_.out (by kernel_rfl)) (by decide) (fun K hK => ?_)
      refine goes_ Try.func18 (by kernel_rfl) rfl #[.int .i64 a0] (by rfl) rfl rfl mp_ ?_
      with_reducible refine (lockgateref14_Code.calls a0 t274 t275 t276 _ A16.out).mono ?_
      rintro e w44 ⟨rfl, hb⟩
      refine ⟨_, rfl, ?_⟩
      replace BK251 := bb_ hb BK251
      replace BK252 := bb_ hb BK252
      replace BK257 := bb_ hb BK257
      replace BK262 := bb_ hb BK262
      replace HB := bl_ hb
      try clear hb
      refine hK.out _ _ ⟨c0_ BK257, c1_ BK257, c2_ BK257, c0_ BK262, c1_ BK262, c2_ BK262, c0_ BK251, c1_ BK251, c2_ BK251⟩ (fun hHeld => ?_)
      clear hK K
      refine norm_ (a' := ?_) ?_ ?_
      rotate_left
      ·show Act.put _ (some 57) _ = _
       simp only [Act.put, s1_, s2_, s3_, i64_w, i32_w]
       rfl
      refine pq_ 29 58 #[y_,y_,y_,y_,y_,y_,y_,y_,y_,y_,y_,y_,y_,y_,y_,y_,y_,y_,y_,y_,y_,y_,y_,y_,y_,y_,y_,y_,y_,y_,n_,n_,n_,n_,n_] ?_
      refine pq_ 30 59 #[y_,y_,y_,y_,y_,y_,y_,y_,y_,y_,y_,y_,y_,y_,y_,y_,y_,y_,y_,y_,y_,y_,y_,y_,y_,y_,y_,y_,y_,y_,y_,n_,n_,n_,n_] ?_
      refine pq_ 31 60 #[y_,y_,y_,y_,y_,y_,y_,y_,y_,y_,y_,y_,y_,y_,y_,y_,y_,y_,y_,y_,y_,y_,y_,y_,y_,y_,y_,y_,y_,y_,y_,y_,n_,n_,n_] ?_
      refine one_ (i := 32) (N := some 61) #[y_,y_,y_,y_,y_,y_,y_,y_,y_,y_,y_,y_,y_,y_,y_,y_,y_,y_,y_,y_,y_,y_,y_,y_,y_,y_,y_,y_,y_,y_,y_,y_,y_,n_,n_] rfl rfl (one_of HT_.out (by kernel_rfl)) (by decide) (fun K hK => ?_)
      refine goes_ Try.func19 (by kernel_rfl) rfl #[] (by rfl) rfl rfl mp_ ?_
      with_reducible refine (lockgatelaw14_works.calls k  t277 _ A18.out).mono ?_
      rintro e w45 ⟨rfl, hb⟩
      refine ⟨_, rfl, ?_⟩
      replace BK251 := bb_ hb BK251
      replace BK252 := bb_ hb BK252
      replace BK257 := bb_ hb BK257
      replace BK262 := bb_ hb BK262
      replace HB := bl_ hb
      try clear hb
      refine hK.out _ _ ⟨c0_ BK257, c1_ BK257, c2_ BK257, c0_ BK262, c1_ BK262, c2_ BK262, c0_ BK251, c1_ BK251, c2_ BK251⟩ (fun hHeld => ?_)
      clear hK K
      refine norm_ (a' := ?_) ?_ ?_
      rotate_left
      ·show Act.put _ (some 61) _ = _
       simp only [Act.put, s1_, s2_, s3_, i64_w, i32_w]
       rfl
      refine pq_ 33 62 #[y_,y_,y_,y_,y_,y_,y_,y_,y_,y_,y_,y_,y_,y_,y_,y_,y_,y_,y_,y_,y_,y_,y_,y_,y_,y_,y_,y_,y_,y_,y_,y_,y_,y_,n_] ?_
      refine pq_ 34 8 #[y_,y_,y_,y_,y_,y_,y_,y_,y_,y_,y_,y_,y_,y_,y_,y_,y_,y_,y_,y_,y_,y_,y_,y_,y_,y_,y_,y_,y_,y_,y_,y_,y_,y_,y_] ?_
      refine done_ (done_of HT_.out (by kernel_rfl)) ?_
      try go_wp2
      go_ret
      exact ⟨vv_, bz_⟩
     ·rw [if_neg c17] at H
      have c17b0 : (t271 == t274 && (t272 == t275 && (t273 == t276))) = false := by simpa using c17
      (try (have c17b1 : decide (t271 = t274 && (t272 == t275 && (t273 == t276))) = false := by simpa using c17))
      (try (have c17b2 : (t271 == t274 && (t272 == t275 && (t273 == t276))) = false := by simpa using c17))
      (try (have c17b3 : ¬ (t271 = t274 && (t272 == t275 && (t273 == t276))) := by simpa using c17))
      clear c17
      exact absurd ((Option.some.inj H).trans HRT.out) (by decide)
    ·rw [if_neg c14] at H
     have c14b0 : (t265 == t268 && (t266 == t269 && (t267 == t270))) = false := by simpa using c14
     (try (have c14b1 : decide (t265 = t268 && (t266 == t269 && (t267 == t270))) = false := by simpa using c14))
     (try (have c14b2 : (t265 == t268 && (t266 == t269 && (t267 == t270))) = false := by simpa using c14))
     (try (have c14b3 : ¬ (t265 = t268 && (t266 == t269 && (t267 == t270))) := by simpa using c14))
     clear c14
     exact absurd ((Option.some.inj H).trans HRT.out) (by decide)
   ·rw [if_neg c11] at H
    have c11b0 : (t263 == t264) = false := by simpa using c11
    (try (have c11b1 : decide (t263 = t264) = false := by simpa using c11))
    (try (have c11b2 : (t263 == t264) = false := by simpa using c11))
    (try (have c11b3 : ¬ (t263 = t264) := by simpa using c11))
    clear c11
    exact absurd ((Option.some.inj H).trans HRT.out) (by decide)
  ·rw [if_neg c8] at H
   have c8b0 : (t256 == t261) = false := beq_eq_false_iff_ne.mpr c8
   have c8b1 : (t256 != t261) = true := bne_iff_ne.mpr c8
   exact absurd ((Option.some.inj H).trans HRT.out) (by decide)
 ·rw [if_neg c7] at H
  have c7b0 : (t253 == t258 && (t254 == t259 && (t255 == t260))) = false := by simpa using c7
  (try (have c7b1 : decide (t253 = t258 && (t254 == t259 && (t255 == t260))) = false := by simpa using c7))
  (try (have c7b2 : (t253 == t258 && (t254 == t259 && (t255 == t260))) = false := by simpa using c7))
  (try (have c7b3 : ¬ (t253 = t258 && (t254 == t259 && (t255 == t260))) := by simpa using c7))
  clear c7
  exact absurd ((Option.some.inj H).trans HRT.out) (by decide)

end Go.Proofs.Ytnpbhippkcikoaa.PA
