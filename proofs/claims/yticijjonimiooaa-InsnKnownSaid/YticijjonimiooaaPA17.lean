import Derived.Test.YticijjonimiooaaPA0
import Derived.Test.YticijjonimiooaaSq
import Derived.Test.YticijjonimiooaaPA16
namespace Go.Proofs.Yticijjonimiooaa.PA
open Go.RowKit Go.Proofs.YticijjonimiooaaW.PrintWords Go.Proofs.YticijjonimiooaaW.PrintLast Go.Proofs.YticijjonimiooaaW.PrintMore
attribute [local go_sem] max2_int min2_int max_two min_two max_three min_three max_four min_four
set_option linter.unusedVariables false
set_option linter.unusedSimpArgs false
mutual
def lockgateref02_Check.j0 : Nat → Bool → Int → Int → Int → Int → Int → Int → Bool → Bool → Bool → Bool → Bool → Option (Int)
 | 0, _, _, _, _, _, _, _, _, _, _, _, _ => none
 | k + 1, x39, x257000, x257001, x257002, x257003, x257004, x265000, x265001, x265002, x265003, x265004, x265005 => if x39 = true then (some 5) else (if x257003 < (-32768) then (lockgateref02_Check.j1 k true x257000 x257001 x257002 x257003 x257004 x265000 x265001 x265002 x265003 x265004 x265005) else (if x257003 > 32767 then (lockgateref02_Check.j1 k true x257000 x257001 x257002 x257003 x257004 x265000 x265001 x265002 x265003 x265004 x265005) else (if x257000 = 24 then (lockgateref02_Check.j1 k false x257000 x257001 x257002 x257003 x257004 x265000 x265001 x265002 x265003 x265004 x265005) else (if x257004 < (-2147483648) then (lockgateref02_Check.j1 k true x257000 x257001 x257002 x257003 x257004 x265000 x265001 x265002 x265003 x265004 x265005) else (lockgateref02_Check.j1 k (decide (x257004 > 2147483647)) x257000 x257001 x257002 x257003 x257004 x265000 x265001 x265002 x265003 x265004 x265005)))))
def lockgateref02_Check.j1 : Nat → Bool → Int → Int → Int → Int → Int → Int → Bool → Bool → Bool → Bool → Bool → Option (Int)
 | 0, _, _, _, _, _, _, _, _, _, _, _, _ => none
 | k + 1, x62, x257000, x257001, x257002, x257003, x257004, x265000, x265001, x265002, x265003, x265004, x265005 => if x62 = true then (some 15) else (if x265001 = true then (if x265002 = true then (if x265003 = true then (if x265004 = true then (lockgateref02_Check.j2 k false x257000 x257001 x257002 x257003 x257004) else (lockgateref02_Check.j2 k (x257004 != 0) x257000 x257001 x257002 x257003 x257004)) else (if x257003 = 0 then (if x265004 = true then (lockgateref02_Check.j2 k false x257000 x257001 x257002 x257003 x257004) else (lockgateref02_Check.j2 k (x257004 != 0) x257000 x257001 x257002 x257003 x257004)) else (lockgateref02_Check.j2 k true x257000 x257001 x257002 x257003 x257004))) else (if x257002 = 0 then (if x265003 = true then (if x265004 = true then (lockgateref02_Check.j2 k false x257000 x257001 x257002 x257003 x257004) else (lockgateref02_Check.j2 k (x257004 != 0) x257000 x257001 x257002 x257003 x257004)) else (if x257003 = 0 then (if x265004 = true then (lockgateref02_Check.j2 k false x257000 x257001 x257002 x257003 x257004) else (lockgateref02_Check.j2 k (x257004 != 0) x257000 x257001 x257002 x257003 x257004)) else (lockgateref02_Check.j2 k true x257000 x257001 x257002 x257003 x257004))) else (lockgateref02_Check.j2 k true x257000 x257001 x257002 x257003 x257004))) else (if x257001 = 0 then (if x265002 = true then (if x265003 = true then (if x265004 = true then (lockgateref02_Check.j2 k false x257000 x257001 x257002 x257003 x257004) else (lockgateref02_Check.j2 k (x257004 != 0) x257000 x257001 x257002 x257003 x257004)) else (if x257003 = 0 then (if x265004 = true then (lockgateref02_Check.j2 k false x257000 x257001 x257002 x257003 x257004) else (lockgateref02_Check.j2 k (x257004 != 0) x257000 x257001 x257002 x257003 x257004)) else (lockgateref02_Check.j2 k true x257000 x257001 x257002 x257003 x257004))) else (if x257002 = 0 then (if x265003 = true then (if x265004 = true then (lockgateref02_Check.j2 k false x257000 x257001 x257002 x257003 x257004) else (lockgateref02_Check.j2 k (x257004 != 0) x257000 x257001 x257002 x257003 x257004)) else (if x257003 = 0 then (if x265004 = true then (lockgateref02_Check.j2 k false x257000 x257001 x257002 x257003 x257004) else (lockgateref02_Check.j2 k (x257004 != 0) x257000 x257001 x257002 x257003 x257004)) else (lockgateref02_Check.j2 k true x257000 x257001 x257002 x257003 x257004))) else (lockgateref02_Check.j2 k true x257000 x257001 x257002 x257003 x257004))) else (lockgateref02_Check.j2 k true x257000 x257001 x257002 x257003 x257004)))
def lockgateref02_Check.j2 : Nat → Bool → Int → Int → Int → Int → Int → Option (Int)
 | 0, _, _, _, _, _, _ => none
 | k + 1, x100, x257000, x257001, x257002, x257003, x257004 => if x100 = true then (some 6) else (if x257000 = 212 then (if x257004 = 16 then (lockgateref02_Check.j3 k false x257000 x257001 x257002 x257003 x257004) else (if x257004 = 32 then (lockgateref02_Check.j3 k false x257000 x257001 x257002 x257003 x257004) else (lockgateref02_Check.j3 k (x257004 != 64) x257000 x257001 x257002 x257003 x257004))) else (if x257000 = 220 then (if x257004 = 16 then (lockgateref02_Check.j3 k false x257000 x257001 x257002 x257003 x257004) else (if x257004 = 32 then (lockgateref02_Check.j3 k false x257000 x257001 x257002 x257003 x257004) else (lockgateref02_Check.j3 k (x257004 != 64) x257000 x257001 x257002 x257003 x257004))) else (lockgateref02_Check.j3 k false x257000 x257001 x257002 x257003 x257004)))
def lockgateref02_Check.j3 : Nat → Bool → Int → Int → Int → Int → Int → Option (Int)
 | 0, _, _, _, _, _, _ => none
 | k + 1, x123, x257000, x257001, x257002, x257003, x257004 => if x123 = true then (some 6) else (if x257000 = 24 then (if x257002 > 1 then (some 6) else (if x257002 = 1 then (if x257004 < 1 then (some 6) else (if x257004 > 8 then (some 6) else (some 0))) else (some 0))) else (some 0))
end
def lockgateref02_Check.f (k : Nat) (a0_0 : Int) (a0_1 : Int) (a0_2 : Int) (a0_3 : Int) (a0_4 : Int) : Option (Int) := (lockgateref02_Of.f k a0_0).bind fun bt257 => (if bt257.2.2.2.2.2.2 = true then (if a0_1 < 0 then (lockgateref02_Check.j0 k true a0_0 a0_1 a0_2 a0_3 a0_4 bt257.1 bt257.2.1 bt257.2.2.1 bt257.2.2.2.1 bt257.2.2.2.2.1 bt257.2.2.2.2.2.1) else (if a0_1 > 10 then (lockgateref02_Check.j0 k true a0_0 a0_1 a0_2 a0_3 a0_4 bt257.1 bt257.2.1 bt257.2.2.1 bt257.2.2.2.1 bt257.2.2.2.2.1 bt257.2.2.2.2.2.1) else (if a0_2 < 0 then (lockgateref02_Check.j0 k true a0_0 a0_1 a0_2 a0_3 a0_4 bt257.1 bt257.2.1 bt257.2.2.1 bt257.2.2.2.1 bt257.2.2.2.2.1 bt257.2.2.2.2.2.1) else (if a0_2 > 10 then (lockgateref02_Check.j0 k true a0_0 a0_1 a0_2 a0_3 a0_4 bt257.1 bt257.2.1 bt257.2.2.1 bt257.2.2.2.1 bt257.2.2.2.2.1 bt257.2.2.2.2.2.1) else (if bt257.2.2.2.2.2.1 = true then (lockgateref02_Check.j0 k (a0_1 == 10) a0_0 a0_1 a0_2 a0_3 a0_4 bt257.1 bt257.2.1 bt257.2.2.1 bt257.2.2.2.1 bt257.2.2.2.2.1 bt257.2.2.2.2.2.1) else (lockgateref02_Check.j0 k false a0_0 a0_1 a0_2 a0_3 a0_4 bt257.1 bt257.2.1 bt257.2.2.1 bt257.2.2.2.1 bt257.2.2.2.2.1 bt257.2.2.2.2.2.1)))))) else (some 4))
theorem lockgateref02_Check.mono_l : ∀ k, (∀ y0 y1 y2 y3 y4 y5 y6 y7 y8 y9 y10 y11, LeO (lockgateref02_Check.j0 k y0 y1 y2 y3 y4 y5 y6 y7 y8 y9 y10 y11) (lockgateref02_Check.j0 (k + 1) y0 y1 y2 y3 y4 y5 y6 y7 y8 y9 y10 y11)) ∧ (∀ y0 y1 y2 y3 y4 y5 y6 y7 y8 y9 y10 y11, LeO (lockgateref02_Check.j1 k y0 y1 y2 y3 y4 y5 y6 y7 y8 y9 y10 y11) (lockgateref02_Check.j1 (k + 1) y0 y1 y2 y3 y4 y5 y6 y7 y8 y9 y10 y11)) ∧ (∀ y0 y1 y2 y3 y4 y5, LeO (lockgateref02_Check.j2 k y0 y1 y2 y3 y4 y5) (lockgateref02_Check.j2 (k + 1) y0 y1 y2 y3 y4 y5)) ∧ (∀ y0 y1 y2 y3 y4 y5, LeO (lockgateref02_Check.j3 k y0 y1 y2 y3 y4 y5) (lockgateref02_Check.j3 (k + 1) y0 y1 y2 y3 y4 y5))
 | 0 => ⟨fun _ _ _ _ _ _ _ _ _ _ _ _ r h => by simp [lockgateref02_Check.j0] at h, fun _ _ _ _ _ _ _ _ _ _ _ _ r h => by simp [lockgateref02_Check.j1] at h, fun _ _ _ _ _ _ r h => by simp [lockgateref02_Check.j2] at h, fun _ _ _ _ _ _ r h => by simp [lockgateref02_Check.j3] at h⟩
 | k + 1 => by
  obtain ⟨ih0, ih1, ih2, ih3⟩ := lockgateref02_Check.mono_l k
  refine ⟨?_, ?_, ?_, ?_⟩
  ·intro y0 y1 y2 y3 y4 y5 y6 y7 y8 y9 y10 y11
   unfold lockgateref02_Check.j0
   repeat' first
   | (with_reducible exact ih0 _ _ _ _ _ _ _ _ _ _ _ _)
   | (with_reducible exact ih1 _ _ _ _ _ _ _ _ _ _ _ _)
   | (with_reducible exact ih2 _ _ _ _ _ _)
   | (with_reducible exact ih3 _ _ _ _ _ _)
   | (with_reducible exact lockgateref02_Of.mono _ _)
   | (with_reducible exact LeO.refl _)
   | (with_reducible exact LeO.none _)
   | (with_reducible refine LeO.ite ?_ ?_)
   | (with_reducible refine LeO.bind ?_ (fun _ => ?_))
   | exact ih0 _ _ _ _ _ _ _ _ _ _ _ _
   | exact ih1 _ _ _ _ _ _ _ _ _ _ _ _
   | exact ih2 _ _ _ _ _ _
   | exact ih3 _ _ _ _ _ _
   | exact lockgateref02_Of.mono _ _
   | exact LeO.none _
   | refine LeO.ite ?_ ?_
   | refine LeO.bind ?_ (fun _ => ?_)
  ·intro y0 y1 y2 y3 y4 y5 y6 y7 y8 y9 y10 y11
   unfold lockgateref02_Check.j1
   repeat' first
   | (with_reducible exact ih0 _ _ _ _ _ _ _ _ _ _ _ _)
   | (with_reducible exact ih1 _ _ _ _ _ _ _ _ _ _ _ _)
   | (with_reducible exact ih2 _ _ _ _ _ _)
   | (with_reducible exact ih3 _ _ _ _ _ _)
   | (with_reducible exact lockgateref02_Of.mono _ _)
   | (with_reducible exact LeO.refl _)
   | (with_reducible exact LeO.none _)
   | (with_reducible refine LeO.ite ?_ ?_)
   | (with_reducible refine LeO.bind ?_ (fun _ => ?_))
   | exact ih0 _ _ _ _ _ _ _ _ _ _ _ _
   | exact ih1 _ _ _ _ _ _ _ _ _ _ _ _
   | exact ih2 _ _ _ _ _ _
   | exact ih3 _ _ _ _ _ _
   | exact lockgateref02_Of.mono _ _
   | exact LeO.none _
   | refine LeO.ite ?_ ?_
   | refine LeO.bind ?_ (fun _ => ?_)
  ·intro y0 y1 y2 y3 y4 y5
   unfold lockgateref02_Check.j2
   repeat' first
   | (with_reducible exact ih0 _ _ _ _ _ _ _ _ _ _ _ _)
   | (with_reducible exact ih1 _ _ _ _ _ _ _ _ _ _ _ _)
   | (with_reducible exact ih2 _ _ _ _ _ _)
   | (with_reducible exact ih3 _ _ _ _ _ _)
   | (with_reducible exact lockgateref02_Of.mono _ _)
   | (with_reducible exact LeO.refl _)
   | (with_reducible exact LeO.none _)
   | (with_reducible refine LeO.ite ?_ ?_)
   | (with_reducible refine LeO.bind ?_ (fun _ => ?_))
   | exact ih0 _ _ _ _ _ _ _ _ _ _ _ _
   | exact ih1 _ _ _ _ _ _ _ _ _ _ _ _
   | exact ih2 _ _ _ _ _ _
   | exact ih3 _ _ _ _ _ _
   | exact lockgateref02_Of.mono _ _
   | exact LeO.none _
   | refine LeO.ite ?_ ?_
   | refine LeO.bind ?_ (fun _ => ?_)
  intro y0 y1 y2 y3 y4 y5
  unfold lockgateref02_Check.j3
  repeat' first
  | (with_reducible exact ih0 _ _ _ _ _ _ _ _ _ _ _ _)
  | (with_reducible exact ih1 _ _ _ _ _ _ _ _ _ _ _ _)
  | (with_reducible exact ih2 _ _ _ _ _ _)
  | (with_reducible exact ih3 _ _ _ _ _ _)
  | (with_reducible exact lockgateref02_Of.mono _ _)
  | (with_reducible exact LeO.refl _)
  | (with_reducible exact LeO.none _)
  | (with_reducible refine LeO.ite ?_ ?_)
  | (with_reducible refine LeO.bind ?_ (fun _ => ?_))
  | exact ih0 _ _ _ _ _ _ _ _ _ _ _ _
  | exact ih1 _ _ _ _ _ _ _ _ _ _ _ _
  | exact ih2 _ _ _ _ _ _
  | exact ih3 _ _ _ _ _ _
  | exact lockgateref02_Of.mono _ _
  | exact LeO.none _
  | refine LeO.ite ?_ ?_
  | refine LeO.bind ?_ (fun _ => ?_)
theorem lockgateref02_Check.mono : ∀ a0 a1 a2 a3 a4 k, LeO (lockgateref02_Check.f k a0 a1 a2 a3 a4) (lockgateref02_Check.f (k + 1) a0 a1 a2 a3 a4) := by
 intro a0 a1 a2 a3 a4 k
 obtain ⟨ih0, ih1, ih2, ih3⟩ := lockgateref02_Check.mono_l k
 unfold lockgateref02_Check.f
 repeat' first
  | (with_reducible exact ih0 _ _ _ _ _ _ _ _ _ _ _ _)
  | (with_reducible exact ih1 _ _ _ _ _ _ _ _ _ _ _ _)
  | (with_reducible exact ih2 _ _ _ _ _ _)
  | (with_reducible exact ih3 _ _ _ _ _ _)
  | (with_reducible exact lockgateref02_Of.mono _ _)
  | (with_reducible exact LeO.refl _)
  | (with_reducible exact LeO.none _)
  | (with_reducible refine LeO.ite ?_ ?_)
  | (with_reducible refine LeO.bind ?_ (fun _ => ?_))
  | exact ih0 _ _ _ _ _ _ _ _ _ _ _ _
  | exact ih1 _ _ _ _ _ _ _ _ _ _ _ _
  | exact ih2 _ _ _ _ _ _
  | exact ih3 _ _ _ _ _ _
  | exact lockgateref02_Of.mono _ _
  | exact LeO.none _
  | refine LeO.ite ?_ ?_
  | refine LeO.bind ?_ (fun _ => ?_)
set_option maxHeartbeats 8000000 in
set_option maxRecDepth 100000 in
theorem lockgateref02_Check.calls (k : Nat) (a0_0 : Int) (a0_1 : Int) (a0_2 : Int) (a0_3 : Int) (a0_4 : Int) (r : Int) (w : World) (h : lockgateref02_Check.f k a0_0 a0_1 a0_2 a0_3 a0_4 = some r) :
 Calls Try.prog 28 #[.agg #[.int .i64 a0_0, .int .i64 a0_1, .int .i64 a0_2, .int .i64 a0_3, .int .i64 a0_4]] w fun e w' => e = .returned (.int .i64 r) ∧ Below w.heap.size w w' := by
 have hu40 := Try.underlying40
 have hu60 := Try.underlying60
 have HB := Aside0.mk (Below.refl w.heap.size w)
 have H : ((lockgateref02_Of.f k a0_0).bind fun bt257 => (if bt257.2.2.2.2.2.2 = true then (if a0_1 < 0 then (lockgateref02_Check.j0 k true a0_0 a0_1 a0_2 a0_3 a0_4 bt257.1 bt257.2.1 bt257.2.2.1 bt257.2.2.2.1 bt257.2.2.2.2.1 bt257.2.2.2.2.2.1) else (if a0_1 > 10 then (lockgateref02_Check.j0 k true a0_0 a0_1 a0_2 a0_3 a0_4 bt257.1 bt257.2.1 bt257.2.2.1 bt257.2.2.2.1 bt257.2.2.2.2.1 bt257.2.2.2.2.2.1) else (if a0_2 < 0 then (lockgateref02_Check.j0 k true a0_0 a0_1 a0_2 a0_3 a0_4 bt257.1 bt257.2.1 bt257.2.2.1 bt257.2.2.2.1 bt257.2.2.2.2.1 bt257.2.2.2.2.2.1) else (if a0_2 > 10 then (lockgateref02_Check.j0 k true a0_0 a0_1 a0_2 a0_3 a0_4 bt257.1 bt257.2.1 bt257.2.2.1 bt257.2.2.2.1 bt257.2.2.2.2.1 bt257.2.2.2.2.2.1) else (if bt257.2.2.2.2.2.1 = true then (lockgateref02_Check.j0 k (a0_1 == 10) a0_0 a0_1 a0_2 a0_3 a0_4 bt257.1 bt257.2.1 bt257.2.2.1 bt257.2.2.2.1 bt257.2.2.2.2.1 bt257.2.2.2.2.2.1) else (lockgateref02_Check.j0 k false a0_0 a0_1 a0_2 a0_3 a0_4 bt257.1 bt257.2.1 bt257.2.2.1 bt257.2.2.2.1 bt257.2.2.2.2.1 bt257.2.2.2.2.2.1)))))) else (some 4))) = some r := h
 clear h
 replace H := Option.bind_eq_some_iff.mp H
 obtain ⟨⟨t257, t258, t259, t260, t261, t262, t263⟩, A20, H⟩ := H
 (try dsimp only at H)
 have A2 := Aside0.mk A20
 clear A20
 by_cases c3 : t263 = true
 rotate_left
 ·replace c3 := Bool.eq_false_iff.mpr c3
  subst c3
  have H1 := if0_ H
  clear H
  have H := H1
  clear H1
  obtain rfl := Option.some.inj H
  go_enter Try.func28, Try.ntmps28
  go_wp2_with (first | ((with_reducible refine gate_dst (N := 1) rfl ?_); refine bx_ 1 #[.int .i64 a0_0, .int .i64 a0_1, .int .i64 a0_2, .int .i64 a0_3, .int .i64 a0_4] 40 ?_; intro gb256 hg w178 BK256 hb; have GW256 := bg_ hg; have GE256 := GW256; replace HB := bl_ hb; clear hb hg; obtain ⟨zc179_0, zc179_1, zc179_2, zc179_3, zc179_4, zf179_0, zf179_1, zf179_2, zf179_3, zf179_4⟩ := k5_ BK256) | ((with_reducible refine gate_callee (f := 43) rfl ?_); refine gM_ 8 Try.func43 (lockgateref02_Of.calls k a0_0 t257 t258 t259 t260 t261 t262 false _ A2.out) ?_; intro w180 hb; replace BK256 := bb_ hb BK256; replace HB := bl_ hb; (try clear hb); ) | ((with_reducible refine gate_dst (N := 3) rfl ?_); refine bx_ 3 #[.int .i64 0, .bool false, .bool false, .bool false, .bool false, .bool false] 60 ?_; intro gb264 hg w181 BK264 hb; have GW264 := bg_ hg; have GE264 := GW264; have NB256_264 := bm_ hg BK256; have NB264_256 := bn_ hg BK256; replace BK256 := bb_ hb BK256; replace HB := bl_ hb; clear hb hg; have hnb182 := NB264_256.out; have hnc182 := NB256_264.out; obtain ⟨zc183_0, zc183_1, zc183_2, zc183_3, zc183_4, zc183_5, zf183_0, zf183_1, zf183_2, zf183_3, zf183_4, zf183_5⟩ := k6_ BK264))
  go_ret
  exact ⟨vv_, bz_⟩
 subst c3
 have H1 := if1_ H
 clear H
 have H := H1
 clear H1
 have HC4 := Aside0.mk H
 clear H
 go_enter Try.func28, Try.ntmps28
 go_upto_region 4 with (first | ((with_reducible refine gate_dst (N := 1) rfl ?_); refine bx_ 1 #[.int .i64 a0_0, .int .i64 a0_1, .int .i64 a0_2, .int .i64 a0_3, .int .i64 a0_4] 40 ?_; intro gb256 hg w5 BK256 hb; have GW256 := bg_ hg; have GE256 := GW256; replace HB := bl_ hb; clear hb hg; obtain ⟨zc6_0, zc6_1, zc6_2, zc6_3, zc6_4, zf6_0, zf6_1, zf6_2, zf6_3, zf6_4⟩ := k5_ BK256) | ((with_reducible refine gate_callee (f := 43) rfl ?_); refine gM_ 8 Try.func43 (lockgateref02_Of.calls k a0_0 t257 t258 t259 t260 t261 t262 true _ A2.out) ?_; intro w7 hb; replace BK256 := bb_ hb BK256; replace HB := bl_ hb; (try clear hb); ) | ((with_reducible refine gate_dst (N := 3) rfl ?_); refine bx_ 3 #[.int .i64 0, .bool false, .bool false, .bool false, .bool false, .bool false] 60 ?_; intro gb264 hg w8 BK264 hb; have GW264 := bg_ hg; have GE264 := GW264; have NB256_264 := bm_ hg BK256; have NB264_256 := bn_ hg BK256; replace BK256 := bb_ hb BK256; replace HB := bl_ hb; clear hb hg; have hnb9 := NB264_256.out; have hnc9 := NB256_264.out; obtain ⟨zc10_0, zc10_1, zc10_2, zc10_3, zc10_4, zc10_5, zf10_0, zf10_1, zf10_2, zf10_3, zf10_4, zf10_5⟩ := k6_ BK264))
 (try simp only [Act.put, s1_, s2_, s3_])
 go_cut [39] (fun v39 wc => ∃ (kq : Nat) (x39_3 : Bool), v39 = .bool x39_3 ∧ Aside0 (lockgateref02_Check.j0 kq x39_3 a0_0 a0_1 a0_2 a0_3 a0_4 t257 t258 t259 t260 t261 t262 = some r) ∧ Aside0 (kq ≤ k) ∧ Aside0 (wc.heap[gb256]? = some (.cells #[.int .i64 a0_0, .int .i64 a0_1, .int .i64 a0_2, .int .i64 a0_3, .int .i64 a0_4] 40 (0, 0))) ∧ Aside0 (wc.heap[gb264]? = some (.cells #[.int .i64 t257, .bool t258, .bool t259, .bool t260, .bool t261, .bool t262] 60 (0, 0))) ∧ Aside0 (Below w.heap.size w wc))
 case first =>
  have H := HC4.out
  clear HC4
  by_cases c11 : a0_1 < 0
  ·rw [if_pos c11] at H
   have c11b0 : decide (a0_1 < 0) = true := decide_eq_true c11
   clear c11
   (first | rw [c11b0] | (simp only [i64_w, i32_w]; rw [c11b0]) | skip)
   have H' := Aside0.mk H
   clear H
   have hnb12 := NB256_264.out
   have hnc12 := NB264_256.out
   obtain ⟨zc13_0, zc13_1, zc13_2, zc13_3, zc13_4, zf13_0, zf13_1, zf13_2, zf13_3, zf13_4⟩ := k5_ BK256
   go_wp2
   go_meet
   case rel => exact ⟨_, (true), vs_, H', ⟨by first | omega | exact Nat.le_refl _⟩, ⟨by (with_reducible repeat (first | apply bN_ | apply bD_ | apply bA_)); refine blk_far ?_ NB256_264.out _; (with_reducible repeat (first | apply bN_ | apply bD_ | apply bA_)); refine blk_far ?_ NB256_264.out _; (with_reducible repeat (first | apply bN_ | apply bD_ | apply bA_)); refine blk_far ?_ NB256_264.out _; (with_reducible repeat (first | apply bN_ | apply bD_ | apply bA_)); refine blk_far ?_ NB256_264.out _; (with_reducible repeat (first | apply bN_ | apply bD_ | apply bA_)); refine blk_far ?_ NB256_264.out _; (with_reducible repeat (first | apply bN_ | apply bD_ | apply bA_)); refine blk_far ?_ NB256_264.out _; exact bk_⟩, ⟨by (with_reducible repeat (first | apply bN_ | apply bD_ | apply bA_)); refine blk_put (cs := #[.int .i64 t257, .bool t258, .bool t259, .bool t260, .bool t261, .bool false]) ?_ 5 _ rfl; (with_reducible repeat (first | apply bN_ | apply bD_ | apply bA_)); refine blk_put (cs := #[.int .i64 t257, .bool t258, .bool t259, .bool t260, .bool false, .bool false]) ?_ 4 _ rfl; (with_reducible repeat (first | apply bN_ | apply bD_ | apply bA_)); refine blk_put (cs := #[.int .i64 t257, .bool t258, .bool t259, .bool false, .bool false, .bool false]) ?_ 3 _ rfl; (with_reducible repeat (first | apply bN_ | apply bD_ | apply bA_)); refine blk_put (cs := #[.int .i64 t257, .bool t258, .bool false, .bool false, .bool false, .bool false]) ?_ 2 _ rfl; (with_reducible repeat (first | apply bN_ | apply bD_ | apply bA_)); refine blk_put (cs := #[.int .i64 t257, .bool false, .bool false, .bool false, .bool false, .bool false]) ?_ 1 _ rfl; (with_reducible repeat (first | apply bN_ | apply bD_ | apply bA_)); refine blk_put (cs := #[.int .i64 0, .bool false, .bool false, .bool false, .bool false, .bool false]) ?_ 0 _ rfl; exact bk_⟩, ⟨bz_⟩⟩
  rw [if_neg c11] at H
  have c11b0 : decide (a0_1 < 0) = false := decide_eq_false c11
  clear c11
  (first | rw [c11b0] | (simp only [i64_w, i32_w]; rw [c11b0]) | skip)
  by_cases c14 : a0_1 > 10
  ·rw [if_pos c14] at H
   have c14b0 : decide (10 < a0_1) = true := decide_eq_true c14
   clear c14
   have H' := Aside0.mk H
   clear H
   have hnb15 := NB256_264.out
   have hnc15 := NB264_256.out
   obtain ⟨zc16_0, zc16_1, zc16_2, zc16_3, zc16_4, zf16_0, zf16_1, zf16_2, zf16_3, zf16_4⟩ := k5_ BK256
   go_wp2
   go_meet
   case rel => exact ⟨_, (true), vs_, H', ⟨by first | omega | exact Nat.le_refl _⟩, ⟨by (with_reducible repeat (first | apply bN_ | apply bD_ | apply bA_)); refine blk_far ?_ NB256_264.out _; (with_reducible repeat (first | apply bN_ | apply bD_ | apply bA_)); refine blk_far ?_ NB256_264.out _; (with_reducible repeat (first | apply bN_ | apply bD_ | apply bA_)); refine blk_far ?_ NB256_264.out _; (with_reducible repeat (first | apply bN_ | apply bD_ | apply bA_)); refine blk_far ?_ NB256_264.out _; (with_reducible repeat (first | apply bN_ | apply bD_ | apply bA_)); refine blk_far ?_ NB256_264.out _; (with_reducible repeat (first | apply bN_ | apply bD_ | apply bA_)); refine blk_far ?_ NB256_264.out _; exact bk_⟩, ⟨by (with_reducible repeat (first | apply bN_ | apply bD_ | apply bA_)); refine blk_put (cs := #[.int .i64 t257, .bool t258, .bool t259, .bool t260, .bool t261, .bool false]) ?_ 5 _ rfl; (with_reducible repeat (first | apply bN_ | apply bD_ | apply bA_)); refine blk_put (cs := #[.int .i64 t257, .bool t258, .bool t259, .bool t260, .bool false, .bool false]) ?_ 4 _ rfl; (with_reducible repeat (first | apply bN_ | apply bD_ | apply bA_)); refine blk_put (cs := #[.int .i64 t257, .bool t258, .bool t259, .bool false, .bool false, .bool false]) ?_ 3 _ rfl; (with_reducible repeat (first | apply bN_ | apply bD_ | apply bA_)); refine blk_put (cs := #[.int .i64 t257, .bool t258, .bool false, .bool false, .bool false, .bool false]) ?_ 2 _ rfl; (with_reducible repeat (first | apply bN_ | apply bD_ | apply bA_)); refine blk_put (cs := #[.int .i64 t257, .bool false, .bool false, .bool false, .bool false, .bool false]) ?_ 1 _ rfl; (with_reducible repeat (first | apply bN_ | apply bD_ | apply bA_)); refine blk_put (cs := #[.int .i64 0, .bool false, .bool false, .bool false, .bool false, .bool false]) ?_ 0 _ rfl; exact bk_⟩, ⟨bz_⟩⟩
  rw [if_neg c14] at H
  have c14b0 : decide (10 < a0_1) = false := decide_eq_false c14
  clear c14
  by_cases c17 : a0_2 < 0
  ·rw [if_pos c17] at H
   have c17b0 : decide (a0_2 < 0) = true := decide_eq_true c17
   clear c17
   have H' := Aside0.mk H
   clear H
   have hnb18 := NB256_264.out
   have hnc18 := NB264_256.out
   obtain ⟨zc19_0, zc19_1, zc19_2, zc19_3, zc19_4, zf19_0, zf19_1, zf19_2, zf19_3, zf19_4⟩ := k5_ BK256
   go_wp2
   go_meet
   case rel => exact ⟨_, (true), vs_, H', ⟨by first | omega | exact Nat.le_refl _⟩, ⟨by (with_reducible repeat (first | apply bN_ | apply bD_ | apply bA_)); refine blk_far ?_ NB256_264.out _; (with_reducible repeat (first | apply bN_ | apply bD_ | apply bA_)); refine blk_far ?_ NB256_264.out _; (with_reducible repeat (first | apply bN_ | apply bD_ | apply bA_)); refine blk_far ?_ NB256_264.out _; (with_reducible repeat (first | apply bN_ | apply bD_ | apply bA_)); refine blk_far ?_ NB256_264.out _; (with_reducible repeat (first | apply bN_ | apply bD_ | apply bA_)); refine blk_far ?_ NB256_264.out _; (with_reducible repeat (first | apply bN_ | apply bD_ | apply bA_)); refine blk_far ?_ NB256_264.out _; exact bk_⟩, ⟨by (with_reducible repeat (first | apply bN_ | apply bD_ | apply bA_)); refine blk_put (cs := #[.int .i64 t257, .bool t258, .bool t259, .bool t260, .bool t261, .bool false]) ?_ 5 _ rfl; (with_reducible repeat (first | apply bN_ | apply bD_ | apply bA_)); refine blk_put (cs := #[.int .i64 t257, .bool t258, .bool t259, .bool t260, .bool false, .bool false]) ?_ 4 _ rfl; (with_reducible repeat (first | apply bN_ | apply bD_ | apply bA_)); refine blk_put (cs := #[.int .i64 t257, .bool t258, .bool t259, .bool false, .bool false, .bool false]) ?_ 3 _ rfl; (with_reducible repeat (first | apply bN_ | apply bD_ | apply bA_)); refine blk_put (cs := #[.int .i64 t257, .bool t258, .bool false, .bool false, .bool false, .bool false]) ?_ 2 _ rfl; (with_reducible repeat (first | apply bN_ | apply bD_ | apply bA_)); refine blk_put (cs := #[.int .i64 t257, .bool false, .bool false, .bool false, .bool false, .bool false]) ?_ 1 _ rfl; (with_reducible repeat (first | apply bN_ | apply bD_ | apply bA_)); refine blk_put (cs := #[.int .i64 0, .bool false, .bool false, .bool false, .bool false, .bool false]) ?_ 0 _ rfl; exact bk_⟩, ⟨bz_⟩⟩
  rw [if_neg c17] at H
  have c17b0 : decide (a0_2 < 0) = false := decide_eq_false c17
  clear c17
  by_cases c20 : a0_2 > 10
  ·rw [if_pos c20] at H
   have c20b0 : decide (10 < a0_2) = true := decide_eq_true c20
   clear c20
   have H' := Aside0.mk H
   clear H
   have hnb21 := NB256_264.out
   have hnc21 := NB264_256.out
   obtain ⟨zc22_0, zc22_1, zc22_2, zc22_3, zc22_4, zf22_0, zf22_1, zf22_2, zf22_3, zf22_4⟩ := k5_ BK256
   go_wp2
   go_meet
   case rel => exact ⟨_, (true), vs_, H', ⟨by first | omega | exact Nat.le_refl _⟩, ⟨by (with_reducible repeat (first | apply bN_ | apply bD_ | apply bA_)); refine blk_far ?_ NB256_264.out _; (with_reducible repeat (first | apply bN_ | apply bD_ | apply bA_)); refine blk_far ?_ NB256_264.out _; (with_reducible repeat (first | apply bN_ | apply bD_ | apply bA_)); refine blk_far ?_ NB256_264.out _; (with_reducible repeat (first | apply bN_ | apply bD_ | apply bA_)); refine blk_far ?_ NB256_264.out _; (with_reducible repeat (first | apply bN_ | apply bD_ | apply bA_)); refine blk_far ?_ NB256_264.out _; (with_reducible repeat (first | apply bN_ | apply bD_ | apply bA_)); refine blk_far ?_ NB256_264.out _; exact bk_⟩, ⟨by (with_reducible repeat (first | apply bN_ | apply bD_ | apply bA_)); refine blk_put (cs := #[.int .i64 t257, .bool t258, .bool t259, .bool t260, .bool t261, .bool false]) ?_ 5 _ rfl; (with_reducible repeat (first | apply bN_ | apply bD_ | apply bA_)); refine blk_put (cs := #[.int .i64 t257, .bool t258, .bool t259, .bool t260, .bool false, .bool false]) ?_ 4 _ rfl; (with_reducible repeat (first | apply bN_ | apply bD_ | apply bA_)); refine blk_put (cs := #[.int .i64 t257, .bool t258, .bool t259, .bool false, .bool false, .bool false]) ?_ 3 _ rfl; (with_reducible repeat (first | apply bN_ | apply bD_ | apply bA_)); refine blk_put (cs := #[.int .i64 t257, .bool t258, .bool false, .bool false, .bool false, .bool false]) ?_ 2 _ rfl; (with_reducible repeat (first | apply bN_ | apply bD_ | apply bA_)); refine blk_put (cs := #[.int .i64 t257, .bool false, .bool false, .bool false, .bool false, .bool false]) ?_ 1 _ rfl; (with_reducible repeat (first | apply bN_ | apply bD_ | apply bA_)); refine blk_put (cs := #[.int .i64 0, .bool false, .bool false, .bool false, .bool false, .bool false]) ?_ 0 _ rfl; exact bk_⟩, ⟨bz_⟩⟩
  rw [if_neg c20] at H
  have c20b0 : decide (10 < a0_2) = false := decide_eq_false c20
  clear c20
  by_cases c23 : t262 = true
  ·subst c23
   have H1 := if1_ H
   clear H
   have H := H1
   clear H1
   have H' := Aside0.mk H
   clear H
   have hnb24 := NB256_264.out
   have hnc24 := NB264_256.out
   obtain ⟨zc25_0, zc25_1, zc25_2, zc25_3, zc25_4, zf25_0, zf25_1, zf25_2, zf25_3, zf25_4⟩ := k5_ BK256
   obtain ⟨zc26_0, zc26_1, zc26_2, zc26_3, zc26_4, zc26_5, zf26_0, zf26_1, zf26_2, zf26_3, zf26_4, zf26_5⟩ := k6_ BK264
   go_wp2
   go_meet
   case rel => exact ⟨_, ((a0_1 == 10)), vs_, H', ⟨by first | omega | exact Nat.le_refl _⟩, ⟨by (with_reducible repeat (first | apply bN_ | apply bD_ | apply bA_)); refine blk_far ?_ NB256_264.out _; (with_reducible repeat (first | apply bN_ | apply bD_ | apply bA_)); refine blk_far ?_ NB256_264.out _; (with_reducible repeat (first | apply bN_ | apply bD_ | apply bA_)); refine blk_far ?_ NB256_264.out _; (with_reducible repeat (first | apply bN_ | apply bD_ | apply bA_)); refine blk_far ?_ NB256_264.out _; (with_reducible repeat (first | apply bN_ | apply bD_ | apply bA_)); refine blk_far ?_ NB256_264.out _; (with_reducible repeat (first | apply bN_ | apply bD_ | apply bA_)); refine blk_far ?_ NB256_264.out _; exact bk_⟩, ⟨by (with_reducible repeat (first | apply bN_ | apply bD_ | apply bA_)); refine blk_put (cs := #[.int .i64 t257, .bool t258, .bool t259, .bool t260, .bool t261, .bool false]) ?_ 5 _ rfl; (with_reducible repeat (first | apply bN_ | apply bD_ | apply bA_)); refine blk_put (cs := #[.int .i64 t257, .bool t258, .bool t259, .bool t260, .bool false, .bool false]) ?_ 4 _ rfl; (with_reducible repeat (first | apply bN_ | apply bD_ | apply bA_)); refine blk_put (cs := #[.int .i64 t257, .bool t258, .bool t259, .bool false, .bool false, .bool false]) ?_ 3 _ rfl; (with_reducible repeat (first | apply bN_ | apply bD_ | apply bA_)); refine blk_put (cs := #[.int .i64 t257, .bool t258, .bool false, .bool false, .bool false, .bool false]) ?_ 2 _ rfl; (with_reducible repeat (first | apply bN_ | apply bD_ | apply bA_)); refine blk_put (cs := #[.int .i64 t257, .bool false, .bool false, .bool false, .bool false, .bool false]) ?_ 1 _ rfl; (with_reducible repeat (first | apply bN_ | apply bD_ | apply bA_)); refine blk_put (cs := #[.int .i64 0, .bool false, .bool false, .bool false, .bool false, .bool false]) ?_ 0 _ rfl; exact bk_⟩, ⟨bz_⟩⟩
  replace c23 := Bool.eq_false_iff.mpr c23
  subst c23
  have H1 := if0_ H
  clear H
  have H := H1
  clear H1
  have H' := Aside0.mk H
  clear H
  have hnb27 := NB256_264.out
  have hnc27 := NB264_256.out
  obtain ⟨zc28_0, zc28_1, zc28_2, zc28_3, zc28_4, zf28_0, zf28_1, zf28_2, zf28_3, zf28_4⟩ := k5_ BK256
  obtain ⟨zc29_0, zc29_1, zc29_2, zc29_3, zc29_4, zc29_5, zf29_0, zf29_1, zf29_2, zf29_3, zf29_4, zf29_5⟩ := k6_ BK264
  go_wp2
  go_meet
  case rel => exact ⟨_, (false), vs_, H', ⟨by first | omega | exact Nat.le_refl _⟩, ⟨by (with_reducible repeat (first | apply bN_ | apply bD_ | apply bA_)); refine blk_far ?_ NB256_264.out _; (with_reducible repeat (first | apply bN_ | apply bD_ | apply bA_)); refine blk_far ?_ NB256_264.out _; (with_reducible repeat (first | apply bN_ | apply bD_ | apply bA_)); refine blk_far ?_ NB256_264.out _; (with_reducible repeat (first | apply bN_ | apply bD_ | apply bA_)); refine blk_far ?_ NB256_264.out _; (with_reducible repeat (first | apply bN_ | apply bD_ | apply bA_)); refine blk_far ?_ NB256_264.out _; (with_reducible repeat (first | apply bN_ | apply bD_ | apply bA_)); refine blk_far ?_ NB256_264.out _; exact bk_⟩, ⟨by (with_reducible repeat (first | apply bN_ | apply bD_ | apply bA_)); refine blk_put (cs := #[.int .i64 t257, .bool t258, .bool t259, .bool t260, .bool t261, .bool false]) ?_ 5 _ rfl; (with_reducible repeat (first | apply bN_ | apply bD_ | apply bA_)); refine blk_put (cs := #[.int .i64 t257, .bool t258, .bool t259, .bool t260, .bool false, .bool false]) ?_ 4 _ rfl; (with_reducible repeat (first | apply bN_ | apply bD_ | apply bA_)); refine blk_put (cs := #[.int .i64 t257, .bool t258, .bool t259, .bool false, .bool false, .bool false]) ?_ 3 _ rfl; (with_reducible repeat (first | apply bN_ | apply bD_ | apply bA_)); refine blk_put (cs := #[.int .i64 t257, .bool t258, .bool false, .bool false, .bool false, .bool false]) ?_ 2 _ rfl; (with_reducible repeat (first | apply bN_ | apply bD_ | apply bA_)); refine blk_put (cs := #[.int .i64 t257, .bool false, .bool false, .bool false, .bool false, .bool false]) ?_ 1 _ rfl; (with_reducible repeat (first | apply bN_ | apply bD_ | apply bA_)); refine blk_put (cs := #[.int .i64 0, .bool false, .bool false, .bool false, .bool false, .bool false]) ?_ 0 _ rfl; exact bk_⟩, ⟨bz_⟩⟩
 case rest =>
  clear HC4
  try clear c1
  try clear c2
  try clear p2
  try clear c3
  try clear c4
  try clear c9
  try clear c11
  try clear c11b0
  try clear c12
  try clear c14
  try clear c14b0
  try clear c15
  try clear c17
  try clear c17b0
  try clear c18
  try clear c20
  try clear c20b0
  try clear c21
  try clear c23
  try clear c24
  try clear c27
  try clear c28
  try clear zc10_0
  try clear zc10_1
  try clear zc10_2
  try clear zc10_3
  try clear zc10_4
  try clear zc10_5
  try clear zc13_0
  try clear zc13_1
  try clear zc13_2
  try clear zc13_3
  try clear zc13_4
  try clear zc16_0
  try clear zc16_1
  try clear zc16_2
  try clear zc16_3
  try clear zc16_4
  try clear zc19_0
  try clear zc19_1
  try clear zc19_2
  try clear zc19_3
  try clear zc19_4
  try clear zc22_0
  try clear zc22_1
  try clear zc22_2
  try clear zc22_3
  try clear zc22_4
  try clear zc25_0
  try clear zc25_1
  try clear zc25_2
  try clear zc25_3
  try clear zc25_4
  try clear zc26_0
  try clear zc26_1
  try clear zc26_2
  try clear zc26_3
  try clear zc26_4
  try clear zc26_5
  try clear zc28_0
  try clear zc28_1
  try clear zc28_2
  try clear zc28_3
  try clear zc28_4
  try clear zc29_0
  try clear zc29_1
  try clear zc29_2
  try clear zc29_3
  try clear zc29_4
  try clear zc29_5
  try clear zc6_0
  try clear zc6_1
  try clear zc6_2
  try clear zc6_3
  try clear zc6_4
  try clear zf10_0
  try clear zf10_1
  try clear zf10_2
  try clear zf10_3
  try clear zf10_4
  try clear zf10_5
  try clear zf13_0
  try clear zf13_1
  try clear zf13_2
  try clear zf13_3
  try clear zf13_4
  try clear zf16_0
  try clear zf16_1
  try clear zf16_2
  try clear zf16_3
  try clear zf16_4
  try clear zf19_0
  try clear zf19_1
  try clear zf19_2
  try clear zf19_3
  try clear zf19_4
  try clear zf22_0
  try clear zf22_1
  try clear zf22_2
  try clear zf22_3
  try clear zf22_4
  try clear zf25_0
  try clear zf25_1
  try clear zf25_2
  try clear zf25_3
  try clear zf25_4
  try clear zf26_0
  try clear zf26_1
  try clear zf26_2
  try clear zf26_3
  try clear zf26_4
  try clear zf26_5
  try clear zf28_0
  try clear zf28_1
  try clear zf28_2
  try clear zf28_3
  try clear zf28_4
  try clear zf29_0
  try clear zf29_1
  try clear zf29_2
  try clear zf29_3
  try clear zf29_4
  try clear zf29_5
  try clear zf6_0
  try clear zf6_1
  try clear zf6_2
  try clear zf6_3
  try clear zf6_4
  obtain ⟨kq, x39_3, rfl, HA, HJ3, BK256, BK264, HB⟩ := hcut
  cases kq with
  | zero => exact absurd HA.out (by simp [lockgateref02_Check.j0])
  | succ kj3 =>
   have H := HA.out
   clear HA
   simp only [lockgateref02_Check.j0] at H
   by_cases c30 : x39_3 = true
   ·subst c30
    have H1 := if1_ H
    clear H
    have H := H1
    clear H1
    obtain rfl := Option.some.inj H
    go_wp2
    go_ret
    exact ⟨vv_, bz_⟩
   replace c30 := Bool.eq_false_iff.mpr c30
   subst c30
   have H1 := if0_ H
   clear H
   have H := H1
   clear H1
   have HC31 := Aside0.mk H
   clear H
   go_upto_region 6 with (fail)
   go_cut [62] (fun v62 wc => ∃ (kq : Nat) (x62_30 : Bool), v62 = .bool x62_30 ∧ Aside0 (lockgateref02_Check.j1 kq x62_30 a0_0 a0_1 a0_2 a0_3 a0_4 t257 t258 t259 t260 t261 t262 = some r) ∧ Aside0 (kq ≤ kj3) ∧ Aside0 (wc.heap[gb256]? = some (.cells #[.int .i64 a0_0, .int .i64 a0_1, .int .i64 a0_2, .int .i64 a0_3, .int .i64 a0_4] 40 (0, 0))) ∧ Aside0 (wc.heap[gb264]? = some (.cells #[.int .i64 t257, .bool t258, .bool t259, .bool t260, .bool t261, .bool t262] 60 (0, 0))) ∧ Aside0 (Below w.heap.size w wc))
   case first =>
    have H := HC31.out
    clear HC31
    by_cases c32 : a0_3 < (-32768)
    ·rw [if_pos c32] at H
     have c32b0 : decide (a0_3 < (-32768)) = true := decide_eq_true c32
     clear c32
     (first | rw [c32b0] | (simp only [i64_w, i32_w]; rw [c32b0]) | skip)
     have H' := Aside0.mk H
     clear H
     have hnb33 := NB256_264.out
     have hnc33 := NB264_256.out
     obtain ⟨zc34_0, zc34_1, zc34_2, zc34_3, zc34_4, zf34_0, zf34_1, zf34_2, zf34_3, zf34_4⟩ := k5_ BK256
     go_wp2
     go_meet
     case rel => exact ⟨_, (true), vs_, H', ⟨by have := HJ3.out; first | omega | exact Nat.le_refl _⟩, ⟨bk_⟩, ⟨bk_⟩, ⟨bz_⟩⟩
    rw [if_neg c32] at H
    have c32b0 : decide (a0_3 < (-32768)) = false := decide_eq_false c32
    clear c32
    (first | rw [c32b0] | (simp only [i64_w, i32_w]; rw [c32b0]) | skip)
    by_cases c35 : a0_3 > 32767
    ·rw [if_pos c35] at H
     have c35b0 : decide (32767 < a0_3) = true := decide_eq_true c35
     clear c35
     have H' := Aside0.mk H
     clear H
     have hnb36 := NB256_264.out
     have hnc36 := NB264_256.out
     obtain ⟨zc37_0, zc37_1, zc37_2, zc37_3, zc37_4, zf37_0, zf37_1, zf37_2, zf37_3, zf37_4⟩ := k5_ BK256
     go_wp2
     go_meet
     case rel => exact ⟨_, (true), vs_, H', ⟨by have := HJ3.out; first | omega | exact Nat.le_refl _⟩, ⟨bk_⟩, ⟨bk_⟩, ⟨bz_⟩⟩
    rw [if_neg c35] at H
    have c35b0 : decide (32767 < a0_3) = false := decide_eq_false c35
    clear c35
    by_cases c38 : a0_0 = 24
    ·rw [if_pos c38] at H
     have c38b0 : (a0_0 == 24) = true := beq_iff_eq.mpr c38
     have c38b1 : (a0_0 != 24) = false := bne_eq_false_iff_eq.mpr c38
     clear c38
     have H' := Aside0.mk H
     clear H
     have hnb39 := NB256_264.out
     have hnc39 := NB264_256.out
     obtain ⟨zc40_0, zc40_1, zc40_2, zc40_3, zc40_4, zf40_0, zf40_1, zf40_2, zf40_3, zf40_4⟩ := k5_ BK256
     go_wp2
     go_meet
     case rel => exact ⟨_, (false), vs_, H', ⟨by have := HJ3.out; first | omega | exact Nat.le_refl _⟩, ⟨bk_⟩, ⟨bk_⟩, ⟨bz_⟩⟩
    rw [if_neg c38] at H
    have c38b0 : (a0_0 == 24) = false := beq_eq_false_iff_ne.mpr c38
    have c38b1 : (a0_0 != 24) = true := bne_iff_ne.mpr c38
    by_cases c41 : a0_4 < (-2147483648)
    ·rw [if_pos c41] at H
     have c41b0 : decide (a0_4 < (-2147483648)) = true := decide_eq_true c41
     clear c41
     have H' := Aside0.mk H
     clear H
     have hnb42 := NB256_264.out
     have hnc42 := NB264_256.out
     obtain ⟨zc43_0, zc43_1, zc43_2, zc43_3, zc43_4, zf43_0, zf43_1, zf43_2, zf43_3, zf43_4⟩ := k5_ BK256
     go_wp2
     go_meet
     case rel => exact ⟨_, (true), vs_, H', ⟨by have := HJ3.out; first | omega | exact Nat.le_refl _⟩, ⟨bk_⟩, ⟨bk_⟩, ⟨bz_⟩⟩
    rw [if_neg c41] at H
    have c41b0 : decide (a0_4 < (-2147483648)) = false := decide_eq_false c41
    clear c41
    have H' := Aside0.mk H
    clear H
    have hnb44 := NB256_264.out
    have hnc44 := NB264_256.out
    obtain ⟨zc45_0, zc45_1, zc45_2, zc45_3, zc45_4, zf45_0, zf45_1, zf45_2, zf45_3, zf45_4⟩ := k5_ BK256
    go_wp2
    go_meet
    case rel => exact ⟨_, (decide (a0_4 > 2147483647)), vs_, H', ⟨by have := HJ3.out; first | omega | exact Nat.le_refl _⟩, ⟨bk_⟩, ⟨bk_⟩, ⟨bz_⟩⟩
   case rest =>
    clear HC31
    try clear c1
    try clear c2
    try clear p2
    try clear c3
    try clear c4
    try clear c9
    try clear c11
    try clear c11b0
    try clear c12
    try clear c14
    try clear c14b0
    try clear c15
    try clear c17
    try clear c17b0
    try clear c18
    try clear c20
    try clear c20b0
    try clear c21
    try clear c23
    try clear c24
    try clear c27
    try clear c28
    try clear c30
    try clear c32
    try clear c32b0
    try clear c33
    try clear c35
    try clear c35b0
    try clear c36
    try clear c38
    try clear c38b0
    try clear c38b1
    try clear c39
    try clear c41
    try clear c41b0
    try clear c42
    try clear c43
    try clear c44
    try clear zc10_0
    try clear zc10_1
    try clear zc10_2
    try clear zc10_3
    try clear zc10_4
    try clear zc10_5
    try clear zc13_0
    try clear zc13_1
    try clear zc13_2
    try clear zc13_3
    try clear zc13_4
    try clear zc16_0
    try clear zc16_1
    try clear zc16_2
    try clear zc16_3
    try clear zc16_4
    try clear zc19_0
    try clear zc19_1
    try clear zc19_2
    try clear zc19_3
    try clear zc19_4
    try clear zc22_0
    try clear zc22_1
    try clear zc22_2
    try clear zc22_3
    try clear zc22_4
    try clear zc25_0
    try clear zc25_1
    try clear zc25_2
    try clear zc25_3
    try clear zc25_4
    try clear zc26_0
    try clear zc26_1
    try clear zc26_2
    try clear zc26_3
    try clear zc26_4
    try clear zc26_5
    try clear zc28_0
    try clear zc28_1
    try clear zc28_2
    try clear zc28_3
    try clear zc28_4
    try clear zc29_0
    try clear zc29_1
    try clear zc29_2
    try clear zc29_3
    try clear zc29_4
    try clear zc29_5
    try clear zc34_0
    try clear zc34_1
    try clear zc34_2
    try clear zc34_3
    try clear zc34_4
    try clear zc37_0
    try clear zc37_1
    try clear zc37_2
    try clear zc37_3
    try clear zc37_4
    try clear zc40_0
    try clear zc40_1
    try clear zc40_2
    try clear zc40_3
    try clear zc40_4
    try clear zc43_0
    try clear zc43_1
    try clear zc43_2
    try clear zc43_3
    try clear zc43_4
    try clear zc45_0
    try clear zc45_1
    try clear zc45_2
    try clear zc45_3
    try clear zc45_4
    try clear zc6_0
    try clear zc6_1
    try clear zc6_2
    try clear zc6_3
    try clear zc6_4
    try clear zf10_0
    try clear zf10_1
    try clear zf10_2
    try clear zf10_3
    try clear zf10_4
    try clear zf10_5
    try clear zf13_0
    try clear zf13_1
    try clear zf13_2
    try clear zf13_3
    try clear zf13_4
    try clear zf16_0
    try clear zf16_1
    try clear zf16_2
    try clear zf16_3
    try clear zf16_4
    try clear zf19_0
    try clear zf19_1
    try clear zf19_2
    try clear zf19_3
    try clear zf19_4
    try clear zf22_0
    try clear zf22_1
    try clear zf22_2
    try clear zf22_3
    try clear zf22_4
    try clear zf25_0
    try clear zf25_1
    try clear zf25_2
    try clear zf25_3
    try clear zf25_4
    try clear zf26_0
    try clear zf26_1
    try clear zf26_2
    try clear zf26_3
    try clear zf26_4
    try clear zf26_5
    try clear zf28_0
    try clear zf28_1
    try clear zf28_2
    try clear zf28_3
    try clear zf28_4
    try clear zf29_0
    try clear zf29_1
    try clear zf29_2
    try clear zf29_3
    try clear zf29_4
    try clear zf29_5
    try clear zf34_0
    try clear zf34_1
    try clear zf34_2
    try clear zf34_3
    try clear zf34_4
    try clear zf37_0
    try clear zf37_1
    try clear zf37_2
    try clear zf37_3
    try clear zf37_4
    try clear zf40_0
    try clear zf40_1
    try clear zf40_2
    try clear zf40_3
    try clear zf40_4
    try clear zf43_0
    try clear zf43_1
    try clear zf43_2
    try clear zf43_3
    try clear zf43_4
    try clear zf45_0
    try clear zf45_1
    try clear zf45_2
    try clear zf45_3
    try clear zf45_4
    try clear zf6_0
    try clear zf6_1
    try clear zf6_2
    try clear zf6_3
    try clear zf6_4
    try clear p2
    obtain ⟨kq, x62_30, rfl, HA, HJ30, BK256, BK264, HB⟩ := hcut
    cases kq with
    | zero => exact absurd HA.out (by simp [lockgateref02_Check.j1])
    | succ kj30 =>
     have H := HA.out
     clear HA
     simp only [lockgateref02_Check.j1] at H
     by_cases c46 : x62_30 = true
     ·subst c46
      have H1 := if1_ H
      clear H
      have H := H1
      clear H1
      obtain rfl := Option.some.inj H
      go_wp2
      go_ret
      exact ⟨vv_, bz_⟩
     replace c46 := Bool.eq_false_iff.mpr c46
     subst c46
     have H1 := if0_ H
     clear H
     have H := H1
     clear H1
     have HC47 := Aside0.mk H
     clear H
     go_upto_region 8 with (fail)
     go_cut [100] (fun v100 wc => ∃ (kq : Nat) (x100_46 : Bool), v100 = .bool x100_46 ∧ Aside0 (lockgateref02_Check.j2 kq x100_46 a0_0 a0_1 a0_2 a0_3 a0_4 = some r) ∧ Aside0 (kq ≤ kj30) ∧ Aside0 (wc.heap[gb256]? = some (.cells #[.int .i64 a0_0, .int .i64 a0_1, .int .i64 a0_2, .int .i64 a0_3, .int .i64 a0_4] 40 (0, 0))) ∧ Aside0 (wc.heap[gb264]? = some (.cells #[.int .i64 t257, .bool t258, .bool t259, .bool t260, .bool t261, .bool t262] 60 (0, 0))) ∧ Aside0 (Below w.heap.size w wc))
     case first =>
      have H := HC47.out
      clear HC47
      by_cases c48 : t258 = true
      ·subst c48
       have H1 := if1_ H
       clear H
       have H := H1
       clear H1
       by_cases c49 : t259 = true
       ·subst c49
        have H1 := if1_ H
        clear H
        have H := H1
        clear H1
        by_cases c50 : t260 = true
        ·subst c50
         have H1 := if1_ H
         clear H
         have H := H1
         clear H1
         by_cases c51 : t261 = true
         ·subst c51
          have H1 := if1_ H
          clear H
          have H := H1
          clear H1
          have H' := Aside0.mk H
          clear H
          have hnb52 := NB264_256.out
          have hnc52 := NB256_264.out
          obtain ⟨zc53_0, zc53_1, zc53_2, zc53_3, zc53_4, zc53_5, zf53_0, zf53_1, zf53_2, zf53_3, zf53_4, zf53_5⟩ := k6_ BK264
          as_aux_lemma =>
           go_wp2
           go_meet
           case rel => exact ⟨_, (false), vs_, H', ⟨by have := HJ3.out; have := HJ30.out; first | omega | exact Nat.le_refl _⟩, ⟨bk_⟩, ⟨bk_⟩, ⟨bz_⟩⟩
         replace c51 := Bool.eq_false_iff.mpr c51
         subst c51
         have H1 := if0_ H
         clear H
         have H := H1
         clear H1
         have H' := Aside0.mk H
         clear H
         have hnb54 := NB264_256.out
         have hnc54 := NB256_264.out
         obtain ⟨zc55_0, zc55_1, zc55_2, zc55_3, zc55_4, zc55_5, zf55_0, zf55_1, zf55_2, zf55_3, zf55_4, zf55_5⟩ := k6_ BK264
         obtain ⟨zc56_0, zc56_1, zc56_2, zc56_3, zc56_4, zf56_0, zf56_1, zf56_2, zf56_3, zf56_4⟩ := k5_ BK256
         as_aux_lemma =>
          go_wp2
          go_meet
          case rel => exact ⟨_, ((a0_4 != 0)), vs_, H', ⟨by have := HJ3.out; have := HJ30.out; first | omega | exact Nat.le_refl _⟩, ⟨bk_⟩, ⟨bk_⟩, ⟨bz_⟩⟩
        replace c50 := Bool.eq_false_iff.mpr c50
        subst c50
        have H1 := if0_ H
        clear H
        have H := H1
        clear H1
        by_cases c57 : a0_3 = 0
        ·rw [if_pos c57] at H
         have c57b0 : (a0_3 == 0) = true := beq_iff_eq.mpr c57
         have c57b1 : (a0_3 != 0) = false := bne_eq_false_iff_eq.mpr c57
         clear c57
         (first | rw [c57b0] | (simp only [i64_w, i32_w]; rw [c57b0]) | skip)
         by_cases c58 : t261 = true
         ·subst c58
          have H1 := if1_ H
          clear H
          have H := H1
          clear H1
          have H' := Aside0.mk H
          clear H
          have hnb59 := NB264_256.out
          have hnc59 := NB256_264.out
          obtain ⟨zc60_0, zc60_1, zc60_2, zc60_3, zc60_4, zc60_5, zf60_0, zf60_1, zf60_2, zf60_3, zf60_4, zf60_5⟩ := k6_ BK264
          obtain ⟨zc61_0, zc61_1, zc61_2, zc61_3, zc61_4, zf61_0, zf61_1, zf61_2, zf61_3, zf61_4⟩ := k5_ BK256
          as_aux_lemma =>
           go_wp2
           go_meet
           case rel => exact ⟨_, (false), vs_, H', ⟨by have := HJ3.out; have := HJ30.out; first | omega | exact Nat.le_refl _⟩, ⟨bk_⟩, ⟨bk_⟩, ⟨bz_⟩⟩
         replace c58 := Bool.eq_false_iff.mpr c58
         subst c58
         have H1 := if0_ H
         clear H
         have H := H1
         clear H1
         have H' := Aside0.mk H
         clear H
         have hnb62 := NB264_256.out
         have hnc62 := NB256_264.out
         obtain ⟨zc63_0, zc63_1, zc63_2, zc63_3, zc63_4, zc63_5, zf63_0, zf63_1, zf63_2, zf63_3, zf63_4, zf63_5⟩ := k6_ BK264
         obtain ⟨zc64_0, zc64_1, zc64_2, zc64_3, zc64_4, zf64_0, zf64_1, zf64_2, zf64_3, zf64_4⟩ := k5_ BK256
         as_aux_lemma =>
          go_wp2
          go_meet
          case rel => exact ⟨_, ((a0_4 != 0)), vs_, H', ⟨by have := HJ3.out; have := HJ30.out; first | omega | exact Nat.le_refl _⟩, ⟨bk_⟩, ⟨bk_⟩, ⟨bz_⟩⟩
        rw [if_neg c57] at H
        have c57b0 : (a0_3 == 0) = false := beq_eq_false_iff_ne.mpr c57
        have c57b1 : (a0_3 != 0) = true := bne_iff_ne.mpr c57
        (first | rw [c57b0] | (simp only [i64_w, i32_w]; rw [c57b0]) | skip)
        have H' := Aside0.mk H
        clear H
        have hnb65 := NB264_256.out
        have hnc65 := NB256_264.out
        obtain ⟨zc66_0, zc66_1, zc66_2, zc66_3, zc66_4, zc66_5, zf66_0, zf66_1, zf66_2, zf66_3, zf66_4, zf66_5⟩ := k6_ BK264
        obtain ⟨zc67_0, zc67_1, zc67_2, zc67_3, zc67_4, zf67_0, zf67_1, zf67_2, zf67_3, zf67_4⟩ := k5_ BK256
        as_aux_lemma =>
         go_wp2
         go_meet
         case rel => exact ⟨_, (true), vs_, H', ⟨by have := HJ3.out; have := HJ30.out; first | omega | exact Nat.le_refl _⟩, ⟨bk_⟩, ⟨bk_⟩, ⟨bz_⟩⟩
       replace c49 := Bool.eq_false_iff.mpr c49
       subst c49
       have H1 := if0_ H
       clear H
       have H := H1
       clear H1
       by_cases c68 : a0_2 = 0
       rotate_left
       ·rw [if_neg c68] at H
        have c68b0 : (a0_2 == 0) = false := beq_eq_false_iff_ne.mpr c68
        have c68b1 : (a0_2 != 0) = true := bne_iff_ne.mpr c68
        have H' := Aside0.mk H
        clear H
        have hnb88 := NB264_256.out
        have hnc88 := NB256_264.out
        obtain ⟨zc89_0, zc89_1, zc89_2, zc89_3, zc89_4, zc89_5, zf89_0, zf89_1, zf89_2, zf89_3, zf89_4, zf89_5⟩ := k6_ BK264
        obtain ⟨zc90_0, zc90_1, zc90_2, zc90_3, zc90_4, zf90_0, zf90_1, zf90_2, zf90_3, zf90_4⟩ := k5_ BK256
        as_aux_lemma =>
         go_wp2
         go_meet
         case rel => exact ⟨_, (true), vs_, H', ⟨by have := HJ3.out; have := HJ30.out; first | omega | exact Nat.le_refl _⟩, ⟨bk_⟩, ⟨bk_⟩, ⟨bz_⟩⟩
       rw [if_pos c68] at H
       have c68b0 : (a0_2 == 0) = true := beq_iff_eq.mpr c68
       have c68b1 : (a0_2 != 0) = false := bne_eq_false_iff_eq.mpr c68
       clear c68
       by_cases c69 : t260 = true
       ·subst c69
        have H1 := if1_ H
        clear H
        have H := H1
        clear H1
        by_cases c70 : t261 = true
        ·subst c70
         have H1 := if1_ H
         clear H
         have H := H1
         clear H1
         have H' := Aside0.mk H
         clear H
         have hnb71 := NB264_256.out
         have hnc71 := NB256_264.out
         obtain ⟨zc72_0, zc72_1, zc72_2, zc72_3, zc72_4, zc72_5, zf72_0, zf72_1, zf72_2, zf72_3, zf72_4, zf72_5⟩ := k6_ BK264
         obtain ⟨zc73_0, zc73_1, zc73_2, zc73_3, zc73_4, zf73_0, zf73_1, zf73_2, zf73_3, zf73_4⟩ := k5_ BK256
         as_aux_lemma =>
          go_wp2
          go_meet
          case rel => exact ⟨_, (false), vs_, H', ⟨by have := HJ3.out; have := HJ30.out; first | omega | exact Nat.le_refl _⟩, ⟨bk_⟩, ⟨bk_⟩, ⟨bz_⟩⟩
        replace c70 := Bool.eq_false_iff.mpr c70
        subst c70
        have H1 := if0_ H
        clear H
        have H := H1
        clear H1
        have H' := Aside0.mk H
        clear H
        have hnb74 := NB264_256.out
        have hnc74 := NB256_264.out
        obtain ⟨zc75_0, zc75_1, zc75_2, zc75_3, zc75_4, zc75_5, zf75_0, zf75_1, zf75_2, zf75_3, zf75_4, zf75_5⟩ := k6_ BK264
        obtain ⟨zc76_0, zc76_1, zc76_2, zc76_3, zc76_4, zf76_0, zf76_1, zf76_2, zf76_3, zf76_4⟩ := k5_ BK256
        as_aux_lemma =>
         go_wp2
         go_meet
         case rel => exact ⟨_, ((a0_4 != 0)), vs_, H', ⟨by have := HJ3.out; have := HJ30.out; first | omega | exact Nat.le_refl _⟩, ⟨bk_⟩, ⟨bk_⟩, ⟨bz_⟩⟩
       replace c69 := Bool.eq_false_iff.mpr c69
       subst c69
       have H1 := if0_ H
       clear H
       have H := H1
       clear H1
       by_cases c77 : a0_3 = 0
       ·rw [if_pos c77] at H
        have c77b0 : (a0_3 == 0) = true := beq_iff_eq.mpr c77
        have c77b1 : (a0_3 != 0) = false := bne_eq_false_iff_eq.mpr c77
        clear c77
        by_cases c78 : t261 = true
        ·subst c78
         have H1 := if1_ H
         clear H
         have H := H1
         clear H1
         have H' := Aside0.mk H
         clear H
         have hnb79 := NB264_256.out
         have hnc79 := NB256_264.out
         obtain ⟨zc80_0, zc80_1, zc80_2, zc80_3, zc80_4, zc80_5, zf80_0, zf80_1, zf80_2, zf80_3, zf80_4, zf80_5⟩ := k6_ BK264
         obtain ⟨zc81_0, zc81_1, zc81_2, zc81_3, zc81_4, zf81_0, zf81_1, zf81_2, zf81_3, zf81_4⟩ := k5_ BK256
         as_aux_lemma =>
          go_wp2
          go_meet
          case rel => exact ⟨_, (false), vs_, H', ⟨by have := HJ3.out; have := HJ30.out; first | omega | exact Nat.le_refl _⟩, ⟨bk_⟩, ⟨bk_⟩, ⟨bz_⟩⟩
        replace c78 := Bool.eq_false_iff.mpr c78
        subst c78
        have H1 := if0_ H
        clear H
        have H := H1
        clear H1
        have H' := Aside0.mk H
        clear H
        have hnb82 := NB264_256.out
        have hnc82 := NB256_264.out
        obtain ⟨zc83_0, zc83_1, zc83_2, zc83_3, zc83_4, zc83_5, zf83_0, zf83_1, zf83_2, zf83_3, zf83_4, zf83_5⟩ := k6_ BK264
        obtain ⟨zc84_0, zc84_1, zc84_2, zc84_3, zc84_4, zf84_0, zf84_1, zf84_2, zf84_3, zf84_4⟩ := k5_ BK256
        as_aux_lemma =>
         go_wp2
         go_meet
         case rel => exact ⟨_, ((a0_4 != 0)), vs_, H', ⟨by have := HJ3.out; have := HJ30.out; first | omega | exact Nat.le_refl _⟩, ⟨bk_⟩, ⟨bk_⟩, ⟨bz_⟩⟩
       rw [if_neg c77] at H
       have c77b0 : (a0_3 == 0) = false := beq_eq_false_iff_ne.mpr c77
       have c77b1 : (a0_3 != 0) = true := bne_iff_ne.mpr c77
       have H' := Aside0.mk H
       clear H
       have hnb85 := NB264_256.out
       have hnc85 := NB256_264.out
       obtain ⟨zc86_0, zc86_1, zc86_2, zc86_3, zc86_4, zc86_5, zf86_0, zf86_1, zf86_2, zf86_3, zf86_4, zf86_5⟩ := k6_ BK264
       obtain ⟨zc87_0, zc87_1, zc87_2, zc87_3, zc87_4, zf87_0, zf87_1, zf87_2, zf87_3, zf87_4⟩ := k5_ BK256
       as_aux_lemma =>
        go_wp2
        go_meet
        case rel => exact ⟨_, (true), vs_, H', ⟨by have := HJ3.out; have := HJ30.out; first | omega | exact Nat.le_refl _⟩, ⟨bk_⟩, ⟨bk_⟩, ⟨bz_⟩⟩
      replace c48 := Bool.eq_false_iff.mpr c48
      subst c48
      have H1 := if0_ H
      clear H
      have H := H1
      clear H1
      by_cases c91 : a0_1 = 0
      rotate_left
      ·rw [if_neg c91] at H
       have c91b0 : (a0_1 == 0) = false := beq_eq_false_iff_ne.mpr c91
       have c91b1 : (a0_1 != 0) = true := bne_iff_ne.mpr c91
       have H' := Aside0.mk H
       clear H
       have hnb135 := NB264_256.out
       have hnc135 := NB256_264.out
       obtain ⟨zc136_0, zc136_1, zc136_2, zc136_3, zc136_4, zc136_5, zf136_0, zf136_1, zf136_2, zf136_3, zf136_4, zf136_5⟩ := k6_ BK264
       obtain ⟨zc137_0, zc137_1, zc137_2, zc137_3, zc137_4, zf137_0, zf137_1, zf137_2, zf137_3, zf137_4⟩ := k5_ BK256
       as_aux_lemma =>
        go_wp2
        go_meet
        case rel => exact ⟨_, (true), vs_, H', ⟨by have := HJ3.out; have := HJ30.out; first | omega | exact Nat.le_refl _⟩, ⟨bk_⟩, ⟨bk_⟩, ⟨bz_⟩⟩
      rw [if_pos c91] at H
      have c91b0 : (a0_1 == 0) = true := beq_iff_eq.mpr c91
      have c91b1 : (a0_1 != 0) = false := bne_eq_false_iff_eq.mpr c91
      clear c91
      by_cases c92 : t259 = true
      ·subst c92
       have H1 := if1_ H
       clear H
       have H := H1
       clear H1
       by_cases c93 : t260 = true
       ·subst c93
        have H1 := if1_ H
        clear H
        have H := H1
        clear H1
        by_cases c94 : t261 = true
        ·subst c94
         have H1 := if1_ H
         clear H
         have H := H1
         clear H1
         have H' := Aside0.mk H
         clear H
         have hnb95 := NB264_256.out
         have hnc95 := NB256_264.out
         obtain ⟨zc96_0, zc96_1, zc96_2, zc96_3, zc96_4, zc96_5, zf96_0, zf96_1, zf96_2, zf96_3, zf96_4, zf96_5⟩ := k6_ BK264
         obtain ⟨zc97_0, zc97_1, zc97_2, zc97_3, zc97_4, zf97_0, zf97_1, zf97_2, zf97_3, zf97_4⟩ := k5_ BK256
         as_aux_lemma =>
          go_wp2
          go_meet
          case rel => exact ⟨_, (false), vs_, H', ⟨by have := HJ3.out; have := HJ30.out; first | omega | exact Nat.le_refl _⟩, ⟨bk_⟩, ⟨bk_⟩, ⟨bz_⟩⟩
        replace c94 := Bool.eq_false_iff.mpr c94
        subst c94
        have H1 := if0_ H
        clear H
        have H := H1
        clear H1
        have H' := Aside0.mk H
        clear H
        have hnb98 := NB264_256.out
        have hnc98 := NB256_264.out
        obtain ⟨zc99_0, zc99_1, zc99_2, zc99_3, zc99_4, zc99_5, zf99_0, zf99_1, zf99_2, zf99_3, zf99_4, zf99_5⟩ := k6_ BK264
        obtain ⟨zc100_0, zc100_1, zc100_2, zc100_3, zc100_4, zf100_0, zf100_1, zf100_2, zf100_3, zf100_4⟩ := k5_ BK256
        as_aux_lemma =>
         go_wp2
         go_meet
         case rel => exact ⟨_, ((a0_4 != 0)), vs_, H', ⟨by have := HJ3.out; have := HJ30.out; first | omega | exact Nat.le_refl _⟩, ⟨bk_⟩, ⟨bk_⟩, ⟨bz_⟩⟩
       replace c93 := Bool.eq_false_iff.mpr c93
       subst c93
       have H1 := if0_ H
       clear H
       have H := H1
       clear H1
       by_cases c101 : a0_3 = 0
       ·rw [if_pos c101] at H
        have c101b0 : (a0_3 == 0) = true := beq_iff_eq.mpr c101
        have c101b1 : (a0_3 != 0) = false := bne_eq_false_iff_eq.mpr c101
        clear c101
        by_cases c102 : t261 = true
        ·subst c102
         have H1 := if1_ H
         clear H
         have H := H1
         clear H1
         have H' := Aside0.mk H
         clear H
         have hnb103 := NB264_256.out
         have hnc103 := NB256_264.out
         obtain ⟨zc104_0, zc104_1, zc104_2, zc104_3, zc104_4, zc104_5, zf104_0, zf104_1, zf104_2, zf104_3, zf104_4, zf104_5⟩ := k6_ BK264
         obtain ⟨zc105_0, zc105_1, zc105_2, zc105_3, zc105_4, zf105_0, zf105_1, zf105_2, zf105_3, zf105_4⟩ := k5_ BK256
         as_aux_lemma =>
          go_wp2
          go_meet
          case rel => exact ⟨_, (false), vs_, H', ⟨by have := HJ3.out; have := HJ30.out; first | omega | exact Nat.le_refl _⟩, ⟨bk_⟩, ⟨bk_⟩, ⟨bz_⟩⟩
        replace c102 := Bool.eq_false_iff.mpr c102
        subst c102
        have H1 := if0_ H
        clear H
        have H := H1
        clear H1
        have H' := Aside0.mk H
        clear H
        have hnb106 := NB264_256.out
        have hnc106 := NB256_264.out
        obtain ⟨zc107_0, zc107_1, zc107_2, zc107_3, zc107_4, zc107_5, zf107_0, zf107_1, zf107_2, zf107_3, zf107_4, zf107_5⟩ := k6_ BK264
        obtain ⟨zc108_0, zc108_1, zc108_2, zc108_3, zc108_4, zf108_0, zf108_1, zf108_2, zf108_3, zf108_4⟩ := k5_ BK256
        as_aux_lemma =>
         go_wp2
         go_meet
         case rel => exact ⟨_, ((a0_4 != 0)), vs_, H', ⟨by have := HJ3.out; have := HJ30.out; first | omega | exact Nat.le_refl _⟩, ⟨bk_⟩, ⟨bk_⟩, ⟨bz_⟩⟩
       rw [if_neg c101] at H
       have c101b0 : (a0_3 == 0) = false := beq_eq_false_iff_ne.mpr c101
       have c101b1 : (a0_3 != 0) = true := bne_iff_ne.mpr c101
       have H' := Aside0.mk H
       clear H
       have hnb109 := NB264_256.out
       have hnc109 := NB256_264.out
       obtain ⟨zc110_0, zc110_1, zc110_2, zc110_3, zc110_4, zc110_5, zf110_0, zf110_1, zf110_2, zf110_3, zf110_4, zf110_5⟩ := k6_ BK264
       obtain ⟨zc111_0, zc111_1, zc111_2, zc111_3, zc111_4, zf111_0, zf111_1, zf111_2, zf111_3, zf111_4⟩ := k5_ BK256
       as_aux_lemma =>
        go_wp2
        go_meet
        case rel => exact ⟨_, (true), vs_, H', ⟨by have := HJ3.out; have := HJ30.out; first | omega | exact Nat.le_refl _⟩, ⟨bk_⟩, ⟨bk_⟩, ⟨bz_⟩⟩
      replace c92 := Bool.eq_false_iff.mpr c92
      subst c92
      have H1 := if0_ H
      clear H
      have H := H1
      clear H1
      by_cases c112 : a0_2 = 0
      rotate_left
      ·rw [if_neg c112] at H
       have c112b0 : (a0_2 == 0) = false := beq_eq_false_iff_ne.mpr c112
       have c112b1 : (a0_2 != 0) = true := bne_iff_ne.mpr c112
       have H' := Aside0.mk H
       clear H
       have hnb132 := NB264_256.out
       have hnc132 := NB256_264.out
       obtain ⟨zc133_0, zc133_1, zc133_2, zc133_3, zc133_4, zc133_5, zf133_0, zf133_1, zf133_2, zf133_3, zf133_4, zf133_5⟩ := k6_ BK264
       obtain ⟨zc134_0, zc134_1, zc134_2, zc134_3, zc134_4, zf134_0, zf134_1, zf134_2, zf134_3, zf134_4⟩ := k5_ BK256
       as_aux_lemma =>
        go_wp2
        go_meet
        case rel => exact ⟨_, (true), vs_, H', ⟨by have := HJ3.out; have := HJ30.out; first | omega | exact Nat.le_refl _⟩, ⟨bk_⟩, ⟨bk_⟩, ⟨bz_⟩⟩
      rw [if_pos c112] at H
      have c112b0 : (a0_2 == 0) = true := beq_iff_eq.mpr c112
      have c112b1 : (a0_2 != 0) = false := bne_eq_false_iff_eq.mpr c112
      clear c112
      by_cases c113 : t260 = true
      ·subst c113
       have H1 := if1_ H
       clear H
       have H := H1
       clear H1
       by_cases c114 : t261 = true
       ·subst c114
        have H1 := if1_ H
        clear H
        have H := H1
        clear H1
        have H' := Aside0.mk H
        clear H
        have hnb115 := NB264_256.out
        have hnc115 := NB256_264.out
        obtain ⟨zc116_0, zc116_1, zc116_2, zc116_3, zc116_4, zc116_5, zf116_0, zf116_1, zf116_2, zf116_3, zf116_4, zf116_5⟩ := k6_ BK264
        obtain ⟨zc117_0, zc117_1, zc117_2, zc117_3, zc117_4, zf117_0, zf117_1, zf117_2, zf117_3, zf117_4⟩ := k5_ BK256
        as_aux_lemma =>
         go_wp2
         go_meet
         case rel => exact ⟨_, (false), vs_, H', ⟨by have := HJ3.out; have := HJ30.out; first | omega | exact Nat.le_refl _⟩, ⟨bk_⟩, ⟨bk_⟩, ⟨bz_⟩⟩
       replace c114 := Bool.eq_false_iff.mpr c114
       subst c114
       have H1 := if0_ H
       clear H
       have H := H1
       clear H1
       have H' := Aside0.mk H
       clear H
       have hnb118 := NB264_256.out
       have hnc118 := NB256_264.out
       obtain ⟨zc119_0, zc119_1, zc119_2, zc119_3, zc119_4, zc119_5, zf119_0, zf119_1, zf119_2, zf119_3, zf119_4, zf119_5⟩ := k6_ BK264
       obtain ⟨zc120_0, zc120_1, zc120_2, zc120_3, zc120_4, zf120_0, zf120_1, zf120_2, zf120_3, zf120_4⟩ := k5_ BK256
       as_aux_lemma =>
        go_wp2
        go_meet
        case rel => exact ⟨_, ((a0_4 != 0)), vs_, H', ⟨by have := HJ3.out; have := HJ30.out; first | omega | exact Nat.le_refl _⟩, ⟨bk_⟩, ⟨bk_⟩, ⟨bz_⟩⟩
      replace c113 := Bool.eq_false_iff.mpr c113
      subst c113
      have H1 := if0_ H
      clear H
      have H := H1
      clear H1
      by_cases c121 : a0_3 = 0
      ·rw [if_pos c121] at H
       have c121b0 : (a0_3 == 0) = true := beq_iff_eq.mpr c121
       have c121b1 : (a0_3 != 0) = false := bne_eq_false_iff_eq.mpr c121
       clear c121
       by_cases c122 : t261 = true
       ·subst c122
        have H1 := if1_ H
        clear H
        have H := H1
        clear H1
        have H' := Aside0.mk H
        clear H
        have hnb123 := NB264_256.out
        have hnc123 := NB256_264.out
        obtain ⟨zc124_0, zc124_1, zc124_2, zc124_3, zc124_4, zc124_5, zf124_0, zf124_1, zf124_2, zf124_3, zf124_4, zf124_5⟩ := k6_ BK264
        obtain ⟨zc125_0, zc125_1, zc125_2, zc125_3, zc125_4, zf125_0, zf125_1, zf125_2, zf125_3, zf125_4⟩ := k5_ BK256
        as_aux_lemma =>
         go_wp2
         go_meet
         case rel => exact ⟨_, (false), vs_, H', ⟨by have := HJ3.out; have := HJ30.out; first | omega | exact Nat.le_refl _⟩, ⟨bk_⟩, ⟨bk_⟩, ⟨bz_⟩⟩
       replace c122 := Bool.eq_false_iff.mpr c122
       subst c122
       have H1 := if0_ H
       clear H
       have H := H1
       clear H1
       have H' := Aside0.mk H
       clear H
       have hnb126 := NB264_256.out
       have hnc126 := NB256_264.out
       obtain ⟨zc127_0, zc127_1, zc127_2, zc127_3, zc127_4, zc127_5, zf127_0, zf127_1, zf127_2, zf127_3, zf127_4, zf127_5⟩ := k6_ BK264
       obtain ⟨zc128_0, zc128_1, zc128_2, zc128_3, zc128_4, zf128_0, zf128_1, zf128_2, zf128_3, zf128_4⟩ := k5_ BK256
       as_aux_lemma =>
        go_wp2
        go_meet
        case rel => exact ⟨_, ((a0_4 != 0)), vs_, H', ⟨by have := HJ3.out; have := HJ30.out; first | omega | exact Nat.le_refl _⟩, ⟨bk_⟩, ⟨bk_⟩, ⟨bz_⟩⟩
      rw [if_neg c121] at H
      have c121b0 : (a0_3 == 0) = false := beq_eq_false_iff_ne.mpr c121
      have c121b1 : (a0_3 != 0) = true := bne_iff_ne.mpr c121
      have H' := Aside0.mk H
      clear H
      have hnb129 := NB264_256.out
      have hnc129 := NB256_264.out
      obtain ⟨zc130_0, zc130_1, zc130_2, zc130_3, zc130_4, zc130_5, zf130_0, zf130_1, zf130_2, zf130_3, zf130_4, zf130_5⟩ := k6_ BK264
      obtain ⟨zc131_0, zc131_1, zc131_2, zc131_3, zc131_4, zf131_0, zf131_1, zf131_2, zf131_3, zf131_4⟩ := k5_ BK256
      as_aux_lemma =>
       go_wp2
       go_meet
       case rel => exact ⟨_, (true), vs_, H', ⟨by have := HJ3.out; have := HJ30.out; first | omega | exact Nat.le_refl _⟩, ⟨bk_⟩, ⟨bk_⟩, ⟨bz_⟩⟩
     case rest =>
      clear HC47
      try clear c1
      try clear p2
      try clear c4
      try clear c6
      try clear c7
      try clear c8
      try clear c9
      try clear c10
      try clear c11
      try clear c12
      try clear c13
      try clear c48
      try clear c68
      try clear c68b0
      try clear c68b1
      try clear c77
      try clear c77b0
      try clear c77b1
      try clear c78
      try clear c79
      try clear c82
      try clear c85
      try clear c88
      try clear c91
      try clear c91b0
      try clear c91b1
      try clear c92
      try clear c93
      try clear c94
      try clear c95
      try clear c98
      try clear c101
      try clear c101b0
      try clear c101b1
      try clear c102
      try clear c103
      try clear c106
      try clear c109
      try clear c112
      try clear c112b0
      try clear c112b1
      try clear c113
      try clear c114
      try clear c115
      try clear c118
      try clear c121
      try clear c121b0
      try clear c121b1
      try clear c122
      try clear c123
      try clear c126
      try clear c129
      try clear c132
      try clear c135
      try clear zc100_0
      try clear zc100_1
      try clear zc100_2
      try clear zc100_3
      try clear zc100_4
      try clear zc104_0
      try clear zc104_1
      try clear zc104_2
      try clear zc104_3
      try clear zc104_4
      try clear zc104_5
      try clear zc105_0
      try clear zc105_1
      try clear zc105_2
      try clear zc105_3
      try clear zc105_4
      try clear zc107_0
      try clear zc107_1
      try clear zc107_2
      try clear zc107_3
      try clear zc107_4
      try clear zc107_5
      try clear zc108_0
      try clear zc108_1
      try clear zc108_2
      try clear zc108_3
      try clear zc108_4
      try clear zc110_0
      try clear zc110_1
      try clear zc110_2
      try clear zc110_3
      try clear zc110_4
      try clear zc110_5
      try clear zc111_0
      try clear zc111_1
      try clear zc111_2
      try clear zc111_3
      try clear zc111_4
      try clear zc116_0
      try clear zc116_1
      try clear zc116_2
      try clear zc116_3
      try clear zc116_4
      try clear zc116_5
      try clear zc117_0
      try clear zc117_1
      try clear zc117_2
      try clear zc117_3
      try clear zc117_4
      try clear zc119_0
      try clear zc119_1
      try clear zc119_2
      try clear zc119_3
      try clear zc119_4
      try clear zc119_5
      try clear zc120_0
      try clear zc120_1
      try clear zc120_2
      try clear zc120_3
      try clear zc120_4
      try clear zc124_0
      try clear zc124_1
      try clear zc124_2
      try clear zc124_3
      try clear zc124_4
      try clear zc124_5
      try clear zc125_0
      try clear zc125_1
      try clear zc125_2
      try clear zc125_3
      try clear zc125_4
      try clear zc127_0
      try clear zc127_1
      try clear zc127_2
      try clear zc127_3
      try clear zc127_4
      try clear zc127_5
      try clear zc128_0
      try clear zc128_1
      try clear zc128_2
      try clear zc128_3
      try clear zc128_4
      try clear zc130_0
      try clear zc130_1
      try clear zc130_2
      try clear zc130_3
      try clear zc130_4
      try clear zc130_5
      try clear zc131_0
      try clear zc131_1
      try clear zc131_2
      try clear zc131_3
      try clear zc131_4
      try clear zc133_0
      try clear zc133_1
      try clear zc133_2
      try clear zc133_3
      try clear zc133_4
      try clear zc133_5
      try clear zc134_0
      try clear zc134_1
      try clear zc134_2
      try clear zc134_3
      try clear zc134_4
      try clear zc136_0
      try clear zc136_1
      try clear zc136_2
      try clear zc136_3
      try clear zc136_4
      try clear zc136_5
      try clear zc137_0
      try clear zc137_1
      try clear zc137_2
      try clear zc137_3
      try clear zc137_4
      try clear zc80_0
      try clear zc80_1
      try clear zc80_2
      try clear zc80_3
      try clear zc80_4
      try clear zc80_5
      try clear zc81_0
      try clear zc81_1
      try clear zc81_2
      try clear zc81_3
      try clear zc81_4
      try clear zc83_0
      try clear zc83_1
      try clear zc83_2
      try clear zc83_3
      try clear zc83_4
      try clear zc83_5
      try clear zc84_0
      try clear zc84_1
      try clear zc84_2
      try clear zc84_3
      try clear zc84_4
      try clear zc86_0
      try clear zc86_1
      try clear zc86_2
      try clear zc86_3
      try clear zc86_4
      try clear zc86_5
      try clear zc87_0
      try clear zc87_1
      try clear zc87_2
      try clear zc87_3
      try clear zc87_4
      try clear zc89_0
      try clear zc89_1
      try clear zc89_2
      try clear zc89_3
      try clear zc89_4
      try clear zc89_5
      try clear zc90_0
      try clear zc90_1
      try clear zc90_2
      try clear zc90_3
      try clear zc90_4
      try clear zc96_0
      try clear zc96_1
      try clear zc96_2
      try clear zc96_3
      try clear zc96_4
      try clear zc96_5
      try clear zc97_0
      try clear zc97_1
      try clear zc97_2
      try clear zc97_3
      try clear zc97_4
      try clear zc99_0
      try clear zc99_1
      try clear zc99_2
      try clear zc99_3
      try clear zc99_4
      try clear zc99_5
      try clear zf100_0
      try clear zf100_1
      try clear zf100_2
      try clear zf100_3
      try clear zf100_4
      try clear zf104_0
      try clear zf104_1
      try clear zf104_2
      try clear zf104_3
      try clear zf104_4
      try clear zf104_5
      try clear zf105_0
      try clear zf105_1
      try clear zf105_2
      try clear zf105_3
      try clear zf105_4
      try clear zf107_0
      try clear zf107_1
      try clear zf107_2
      try clear zf107_3
      try clear zf107_4
      try clear zf107_5
      try clear zf108_0
      try clear zf108_1
      try clear zf108_2
      try clear zf108_3
      try clear zf108_4
      try clear zf110_0
      try clear zf110_1
      try clear zf110_2
      try clear zf110_3
      try clear zf110_4
      try clear zf110_5
      try clear zf111_0
      try clear zf111_1
      try clear zf111_2
      try clear zf111_3
      try clear zf111_4
      try clear zf116_0
      try clear zf116_1
      try clear zf116_2
      try clear zf116_3
      try clear zf116_4
      try clear zf116_5
      try clear zf117_0
      try clear zf117_1
      try clear zf117_2
      try clear zf117_3
      try clear zf117_4
      try clear zf119_0
      try clear zf119_1
      try clear zf119_2
      try clear zf119_3
      try clear zf119_4
      try clear zf119_5
      try clear zf120_0
      try clear zf120_1
      try clear zf120_2
      try clear zf120_3
      try clear zf120_4
      try clear zf124_0
      try clear zf124_1
      try clear zf124_2
      try clear zf124_3
      try clear zf124_4
      try clear zf124_5
      try clear zf125_0
      try clear zf125_1
      try clear zf125_2
      try clear zf125_3
      try clear zf125_4
      try clear zf127_0
      try clear zf127_1
      try clear zf127_2
      try clear zf127_3
      try clear zf127_4
      try clear zf127_5
      try clear zf128_0
      try clear zf128_1
      try clear zf128_2
      try clear zf128_3
      try clear zf128_4
      try clear zf130_0
      try clear zf130_1
      try clear zf130_2
      try clear zf130_3
      try clear zf130_4
      try clear zf130_5
      try clear zf131_0
      try clear zf131_1
      try clear zf131_2
      try clear zf131_3
      try clear zf131_4
      try clear zf133_0
      try clear zf133_1
      try clear zf133_2
      try clear zf133_3
      try clear zf133_4
      try clear zf133_5
      try clear zf134_0
      try clear zf134_1
      try clear zf134_2
      try clear zf134_3
      try clear zf134_4
      try clear zf136_0
      try clear zf136_1
      try clear zf136_2
      try clear zf136_3
      try clear zf136_4
      try clear zf136_5
      try clear zf137_0
      try clear zf137_1
      try clear zf137_2
      try clear zf137_3
      try clear zf137_4
      try clear zf80_0
      try clear zf80_1
      try clear zf80_2
      try clear zf80_3
      try clear zf80_4
      try clear zf80_5
      try clear zf81_0
      try clear zf81_1
      try clear zf81_2
      try clear zf81_3
      try clear zf81_4
      try clear zf83_0
      try clear zf83_1
      try clear zf83_2
      try clear zf83_3
      try clear zf83_4
      try clear zf83_5
      try clear zf84_0
      try clear zf84_1
      try clear zf84_2
      try clear zf84_3
      try clear zf84_4
      try clear zf86_0
      try clear zf86_1
      try clear zf86_2
      try clear zf86_3
      try clear zf86_4
      try clear zf86_5
      try clear zf87_0
      try clear zf87_1
      try clear zf87_2
      try clear zf87_3
      try clear zf87_4
      try clear zf89_0
      try clear zf89_1
      try clear zf89_2
      try clear zf89_3
      try clear zf89_4
      try clear zf89_5
      try clear zf90_0
      try clear zf90_1
      try clear zf90_2
      try clear zf90_3
      try clear zf90_4
      try clear zf96_0
      try clear zf96_1
      try clear zf96_2
      try clear zf96_3
      try clear zf96_4
      try clear zf96_5
      try clear zf97_0
      try clear zf97_1
      try clear zf97_2
      try clear zf97_3
      try clear zf97_4
      try clear zf99_0
      try clear zf99_1
      try clear zf99_2
      try clear zf99_3
      try clear zf99_4
      try clear zf99_5
      obtain ⟨kq, x100_46, rfl, HA, HJ46, BK256, BK264, HB⟩ := hcut
      cases kq with
      | zero => exact absurd HA.out (by simp [lockgateref02_Check.j2])
      | succ kj46 =>
       have H := HA.out
       clear HA
       simp only [lockgateref02_Check.j2] at H
       by_cases c138 : x100_46 = true
       ·subst c138
        have H1 := if1_ H
        clear H
        have H := H1
        clear H1
        obtain rfl := Option.some.inj H
        go_wp2
        go_ret
        exact ⟨vv_, bz_⟩
       replace c138 := Bool.eq_false_iff.mpr c138
       subst c138
       have H1 := if0_ H
       clear H
       have H := H1
       clear H1
       have HC139 := Aside0.mk H
       clear H
       go_upto_region 10 with (fail)
       go_cut [123] (fun v123 wc => ∃ (kq : Nat) (x123_138 : Bool), v123 = .bool x123_138 ∧ Aside0 (lockgateref02_Check.j3 kq x123_138 a0_0 a0_1 a0_2 a0_3 a0_4 = some r) ∧ Aside0 (kq ≤ kj46) ∧ Aside0 (wc.heap[gb256]? = some (.cells #[.int .i64 a0_0, .int .i64 a0_1, .int .i64 a0_2, .int .i64 a0_3, .int .i64 a0_4] 40 (0, 0))) ∧ Aside0 (wc.heap[gb264]? = some (.cells #[.int .i64 t257, .bool t258, .bool t259, .bool t260, .bool t261, .bool t262] 60 (0, 0))) ∧ Aside0 (Below w.heap.size w wc))
       case first =>
        have H := HC139.out
        clear HC139
        by_cases c140 : a0_0 = 212
        ·rw [if_pos c140] at H
         have c140b0 : (a0_0 == 212) = true := beq_iff_eq.mpr c140
         have c140b1 : (a0_0 != 212) = false := bne_eq_false_iff_eq.mpr c140
         clear c140
         (first | rw [c140b0] | (simp only [i64_w, i32_w]; rw [c140b0]) | skip)
         by_cases c141 : a0_4 = 16
         ·rw [if_pos c141] at H
          have c141b0 : (a0_4 == 16) = true := beq_iff_eq.mpr c141
          have c141b1 : (a0_4 != 16) = false := bne_eq_false_iff_eq.mpr c141
          clear c141
          have H' := Aside0.mk H
          clear H
          have hnb142 := NB256_264.out
          have hnc142 := NB264_256.out
          obtain ⟨zc143_0, zc143_1, zc143_2, zc143_3, zc143_4, zf143_0, zf143_1, zf143_2, zf143_3, zf143_4⟩ := k5_ BK256
          go_wp2
          go_meet
          case rel => exact ⟨_, (false), vs_, H', ⟨by have := HJ3.out; have := HJ30.out; have := HJ46.out; first | omega | exact Nat.le_refl _⟩, ⟨bk_⟩, ⟨bk_⟩, ⟨bz_⟩⟩
         rw [if_neg c141] at H
         have c141b0 : (a0_4 == 16) = false := beq_eq_false_iff_ne.mpr c141
         have c141b1 : (a0_4 != 16) = true := bne_iff_ne.mpr c141
         by_cases c144 : a0_4 = 32
         ·rw [if_pos c144] at H
          have c144b0 : (a0_4 == 32) = true := beq_iff_eq.mpr c144
          have c144b1 : (a0_4 != 32) = false := bne_eq_false_iff_eq.mpr c144
          clear c144
          have H' := Aside0.mk H
          clear H
          have hnb145 := NB256_264.out
          have hnc145 := NB264_256.out
          obtain ⟨zc146_0, zc146_1, zc146_2, zc146_3, zc146_4, zf146_0, zf146_1, zf146_2, zf146_3, zf146_4⟩ := k5_ BK256
          go_wp2
          go_meet
          case rel => exact ⟨_, (false), vs_, H', ⟨by have := HJ3.out; have := HJ30.out; have := HJ46.out; first | omega | exact Nat.le_refl _⟩, ⟨bk_⟩, ⟨bk_⟩, ⟨bz_⟩⟩
         rw [if_neg c144] at H
         have c144b0 : (a0_4 == 32) = false := beq_eq_false_iff_ne.mpr c144
         have c144b1 : (a0_4 != 32) = true := bne_iff_ne.mpr c144
         have H' := Aside0.mk H
         clear H
         have hnb147 := NB256_264.out
         have hnc147 := NB264_256.out
         obtain ⟨zc148_0, zc148_1, zc148_2, zc148_3, zc148_4, zf148_0, zf148_1, zf148_2, zf148_3, zf148_4⟩ := k5_ BK256
         go_wp2
         go_meet
         case rel => exact ⟨_, ((a0_4 != 64)), vs_, H', ⟨by have := HJ3.out; have := HJ30.out; have := HJ46.out; first | omega | exact Nat.le_refl _⟩, ⟨bk_⟩, ⟨bk_⟩, ⟨bz_⟩⟩
        rw [if_neg c140] at H
        have c140b0 : (a0_0 == 212) = false := beq_eq_false_iff_ne.mpr c140
        have c140b1 : (a0_0 != 212) = true := bne_iff_ne.mpr c140
        (first | rw [c140b0] | (simp only [i64_w, i32_w]; rw [c140b0]) | skip)
        by_cases c149 : a0_0 = 220
        rotate_left
        ·rw [if_neg c149] at H
         have c149b0 : (a0_0 == 220) = false := beq_eq_false_iff_ne.mpr c149
         have c149b1 : (a0_0 != 220) = true := bne_iff_ne.mpr c149
         have H' := Aside0.mk H
         clear H
         have hnb158 := NB256_264.out
         have hnc158 := NB264_256.out
         obtain ⟨zc159_0, zc159_1, zc159_2, zc159_3, zc159_4, zf159_0, zf159_1, zf159_2, zf159_3, zf159_4⟩ := k5_ BK256
         go_wp2
         go_meet
         case rel => exact ⟨_, (false), vs_, H', ⟨by have := HJ3.out; have := HJ30.out; have := HJ46.out; first | omega | exact Nat.le_refl _⟩, ⟨bk_⟩, ⟨bk_⟩, ⟨bz_⟩⟩
        rw [if_pos c149] at H
        have c149b0 : (a0_0 == 220) = true := beq_iff_eq.mpr c149
        have c149b1 : (a0_0 != 220) = false := bne_eq_false_iff_eq.mpr c149
        clear c149
        by_cases c150 : a0_4 = 16
        ·rw [if_pos c150] at H
         have c150b0 : (a0_4 == 16) = true := beq_iff_eq.mpr c150
         have c150b1 : (a0_4 != 16) = false := bne_eq_false_iff_eq.mpr c150
         clear c150
         have H' := Aside0.mk H
         clear H
         have hnb151 := NB256_264.out
         have hnc151 := NB264_256.out
         obtain ⟨zc152_0, zc152_1, zc152_2, zc152_3, zc152_4, zf152_0, zf152_1, zf152_2, zf152_3, zf152_4⟩ := k5_ BK256
         go_wp2
         go_meet
         case rel => exact ⟨_, (false), vs_, H', ⟨by have := HJ3.out; have := HJ30.out; have := HJ46.out; first | omega | exact Nat.le_refl _⟩, ⟨bk_⟩, ⟨bk_⟩, ⟨bz_⟩⟩
        rw [if_neg c150] at H
        have c150b0 : (a0_4 == 16) = false := beq_eq_false_iff_ne.mpr c150
        have c150b1 : (a0_4 != 16) = true := bne_iff_ne.mpr c150
        by_cases c153 : a0_4 = 32
        ·rw [if_pos c153] at H
         have c153b0 : (a0_4 == 32) = true := beq_iff_eq.mpr c153
         have c153b1 : (a0_4 != 32) = false := bne_eq_false_iff_eq.mpr c153
         clear c153
         have H' := Aside0.mk H
         clear H
         have hnb154 := NB256_264.out
         have hnc154 := NB264_256.out
         obtain ⟨zc155_0, zc155_1, zc155_2, zc155_3, zc155_4, zf155_0, zf155_1, zf155_2, zf155_3, zf155_4⟩ := k5_ BK256
         go_wp2
         go_meet
         case rel => exact ⟨_, (false), vs_, H', ⟨by have := HJ3.out; have := HJ30.out; have := HJ46.out; first | omega | exact Nat.le_refl _⟩, ⟨bk_⟩, ⟨bk_⟩, ⟨bz_⟩⟩
        rw [if_neg c153] at H
        have c153b0 : (a0_4 == 32) = false := beq_eq_false_iff_ne.mpr c153
        have c153b1 : (a0_4 != 32) = true := bne_iff_ne.mpr c153
        have H' := Aside0.mk H
        clear H
        have hnb156 := NB256_264.out
        have hnc156 := NB264_256.out
        obtain ⟨zc157_0, zc157_1, zc157_2, zc157_3, zc157_4, zf157_0, zf157_1, zf157_2, zf157_3, zf157_4⟩ := k5_ BK256
        go_wp2
        go_meet
        case rel => exact ⟨_, ((a0_4 != 64)), vs_, H', ⟨by have := HJ3.out; have := HJ30.out; have := HJ46.out; first | omega | exact Nat.le_refl _⟩, ⟨bk_⟩, ⟨bk_⟩, ⟨bz_⟩⟩
       case rest =>
        clear HC139
        try clear c1
        try clear p2
        try clear c4
        try clear c6
        try clear c7
        try clear c8
        try clear c9
        try clear c10
        try clear c11
        try clear c12
        try clear c13
        try clear c14
        try clear c15
        try clear c48
        try clear c68
        try clear c68b0
        try clear c68b1
        try clear c77
        try clear c77b0
        try clear c77b1
        try clear c78
        try clear c79
        try clear c82
        try clear c85
        try clear c88
        try clear c91
        try clear c91b0
        try clear c91b1
        try clear c92
        try clear c93
        try clear c94
        try clear c95
        try clear c98
        try clear c101
        try clear c101b0
        try clear c101b1
        try clear c102
        try clear c103
        try clear c106
        try clear c109
        try clear c112
        try clear c112b0
        try clear c112b1
        try clear c113
        try clear c114
        try clear c115
        try clear c118
        try clear c121
        try clear c121b0
        try clear c121b1
        try clear c122
        try clear c123
        try clear c126
        try clear c129
        try clear c132
        try clear c135
        try clear c138
        try clear c140
        try clear c140b0
        try clear c140b1
        try clear c141
        try clear c141b0
        try clear c141b1
        try clear c142
        try clear c144
        try clear c144b0
        try clear c144b1
        try clear c145
        try clear c147
        try clear c149
        try clear c149b0
        try clear c149b1
        try clear c150
        try clear c150b0
        try clear c150b1
        try clear c151
        try clear c153
        try clear c153b0
        try clear c153b1
        try clear c154
        try clear c156
        try clear c158
        try clear zc100_0
        try clear zc100_1
        try clear zc100_2
        try clear zc100_3
        try clear zc100_4
        try clear zc104_0
        try clear zc104_1
        try clear zc104_2
        try clear zc104_3
        try clear zc104_4
        try clear zc104_5
        try clear zc105_0
        try clear zc105_1
        try clear zc105_2
        try clear zc105_3
        try clear zc105_4
        try clear zc107_0
        try clear zc107_1
        try clear zc107_2
        try clear zc107_3
        try clear zc107_4
        try clear zc107_5
        try clear zc108_0
        try clear zc108_1
        try clear zc108_2
        try clear zc108_3
        try clear zc108_4
        try clear zc110_0
        try clear zc110_1
        try clear zc110_2
        try clear zc110_3
        try clear zc110_4
        try clear zc110_5
        try clear zc111_0
        try clear zc111_1
        try clear zc111_2
        try clear zc111_3
        try clear zc111_4
        try clear zc116_0
        try clear zc116_1
        try clear zc116_2
        try clear zc116_3
        try clear zc116_4
        try clear zc116_5
        try clear zc117_0
        try clear zc117_1
        try clear zc117_2
        try clear zc117_3
        try clear zc117_4
        try clear zc119_0
        try clear zc119_1
        try clear zc119_2
        try clear zc119_3
        try clear zc119_4
        try clear zc119_5
        try clear zc120_0
        try clear zc120_1
        try clear zc120_2
        try clear zc120_3
        try clear zc120_4
        try clear zc124_0
        try clear zc124_1
        try clear zc124_2
        try clear zc124_3
        try clear zc124_4
        try clear zc124_5
        try clear zc125_0
        try clear zc125_1
        try clear zc125_2
        try clear zc125_3
        try clear zc125_4
        try clear zc127_0
        try clear zc127_1
        try clear zc127_2
        try clear zc127_3
        try clear zc127_4
        try clear zc127_5
        try clear zc128_0
        try clear zc128_1
        try clear zc128_2
        try clear zc128_3
        try clear zc128_4
        try clear zc130_0
        try clear zc130_1
        try clear zc130_2
        try clear zc130_3
        try clear zc130_4
        try clear zc130_5
        try clear zc131_0
        try clear zc131_1
        try clear zc131_2
        try clear zc131_3
        try clear zc131_4
        try clear zc133_0
        try clear zc133_1
        try clear zc133_2
        try clear zc133_3
        try clear zc133_4
        try clear zc133_5
        try clear zc134_0
        try clear zc134_1
        try clear zc134_2
        try clear zc134_3
        try clear zc134_4
        try clear zc136_0
        try clear zc136_1
        try clear zc136_2
        try clear zc136_3
        try clear zc136_4
        try clear zc136_5
        try clear zc137_0
        try clear zc137_1
        try clear zc137_2
        try clear zc137_3
        try clear zc137_4
        try clear zc143_0
        try clear zc143_1
        try clear zc143_2
        try clear zc143_3
        try clear zc143_4
        try clear zc146_0
        try clear zc146_1
        try clear zc146_2
        try clear zc146_3
        try clear zc146_4
        try clear zc148_0
        try clear zc148_1
        try clear zc148_2
        try clear zc148_3
        try clear zc148_4
        try clear zc152_0
        try clear zc152_1
        try clear zc152_2
        try clear zc152_3
        try clear zc152_4
        try clear zc155_0
        try clear zc155_1
        try clear zc155_2
        try clear zc155_3
        try clear zc155_4
        try clear zc157_0
        try clear zc157_1
        try clear zc157_2
        try clear zc157_3
        try clear zc157_4
        try clear zc159_0
        try clear zc159_1
        try clear zc159_2
        try clear zc159_3
        try clear zc159_4
        try clear zc80_0
        try clear zc80_1
        try clear zc80_2
        try clear zc80_3
        try clear zc80_4
        try clear zc80_5
        try clear zc81_0
        try clear zc81_1
        try clear zc81_2
        try clear zc81_3
        try clear zc81_4
        try clear zc83_0
        try clear zc83_1
        try clear zc83_2
        try clear zc83_3
        try clear zc83_4
        try clear zc83_5
        try clear zc84_0
        try clear zc84_1
        try clear zc84_2
        try clear zc84_3
        try clear zc84_4
        try clear zc86_0
        try clear zc86_1
        try clear zc86_2
        try clear zc86_3
        try clear zc86_4
        try clear zc86_5
        try clear zc87_0
        try clear zc87_1
        try clear zc87_2
        try clear zc87_3
        try clear zc87_4
        try clear zc89_0
        try clear zc89_1
        try clear zc89_2
        try clear zc89_3
        try clear zc89_4
        try clear zc89_5
        try clear zc90_0
        try clear zc90_1
        try clear zc90_2
        try clear zc90_3
        try clear zc90_4
        try clear zc96_0
        try clear zc96_1
        try clear zc96_2
        try clear zc96_3
        try clear zc96_4
        try clear zc96_5
        try clear zc97_0
        try clear zc97_1
        try clear zc97_2
        try clear zc97_3
        try clear zc97_4
        try clear zc99_0
        try clear zc99_1
        try clear zc99_2
        try clear zc99_3
        try clear zc99_4
        try clear zc99_5
        try clear zf100_0
        try clear zf100_1
        try clear zf100_2
        try clear zf100_3
        try clear zf100_4
        try clear zf104_0
        try clear zf104_1
        try clear zf104_2
        try clear zf104_3
        try clear zf104_4
        try clear zf104_5
        try clear zf105_0
        try clear zf105_1
        try clear zf105_2
        try clear zf105_3
        try clear zf105_4
        try clear zf107_0
        try clear zf107_1
        try clear zf107_2
        try clear zf107_3
        try clear zf107_4
        try clear zf107_5
        try clear zf108_0
        try clear zf108_1
        try clear zf108_2
        try clear zf108_3
        try clear zf108_4
        try clear zf110_0
        try clear zf110_1
        try clear zf110_2
        try clear zf110_3
        try clear zf110_4
        try clear zf110_5
        try clear zf111_0
        try clear zf111_1
        try clear zf111_2
        try clear zf111_3
        try clear zf111_4
        try clear zf116_0
        try clear zf116_1
        try clear zf116_2
        try clear zf116_3
        try clear zf116_4
        try clear zf116_5
        try clear zf117_0
        try clear zf117_1
        try clear zf117_2
        try clear zf117_3
        try clear zf117_4
        try clear zf119_0
        try clear zf119_1
        try clear zf119_2
        try clear zf119_3
        try clear zf119_4
        try clear zf119_5
        try clear zf120_0
        try clear zf120_1
        try clear zf120_2
        try clear zf120_3
        try clear zf120_4
        try clear zf124_0
        try clear zf124_1
        try clear zf124_2
        try clear zf124_3
        try clear zf124_4
        try clear zf124_5
        try clear zf125_0
        try clear zf125_1
        try clear zf125_2
        try clear zf125_3
        try clear zf125_4
        try clear zf127_0
        try clear zf127_1
        try clear zf127_2
        try clear zf127_3
        try clear zf127_4
        try clear zf127_5
        try clear zf128_0
        try clear zf128_1
        try clear zf128_2
        try clear zf128_3
        try clear zf128_4
        try clear zf130_0
        try clear zf130_1
        try clear zf130_2
        try clear zf130_3
        try clear zf130_4
        try clear zf130_5
        try clear zf131_0
        try clear zf131_1
        try clear zf131_2
        try clear zf131_3
        try clear zf131_4
        try clear zf133_0
        try clear zf133_1
        try clear zf133_2
        try clear zf133_3
        try clear zf133_4
        try clear zf133_5
        try clear zf134_0
        try clear zf134_1
        try clear zf134_2
        try clear zf134_3
        try clear zf134_4
        try clear zf136_0
        try clear zf136_1
        try clear zf136_2
        try clear zf136_3
        try clear zf136_4
        try clear zf136_5
        try clear zf137_0
        try clear zf137_1
        try clear zf137_2
        try clear zf137_3
        try clear zf137_4
        try clear zf143_0
        try clear zf143_1
        try clear zf143_2
        try clear zf143_3
        try clear zf143_4
        try clear zf146_0
        try clear zf146_1
        try clear zf146_2
        try clear zf146_3
        try clear zf146_4
        try clear zf148_0
        try clear zf148_1
        try clear zf148_2
        try clear zf148_3
        try clear zf148_4
        try clear zf152_0
        try clear zf152_1
        try clear zf152_2
        try clear zf152_3
        try clear zf152_4
        try clear zf155_0
        try clear zf155_1
        try clear zf155_2
        try clear zf155_3
        try clear zf155_4
        try clear zf157_0
        try clear zf157_1
        try clear zf157_2
        try clear zf157_3
        try clear zf157_4
        try clear zf159_0
        try clear zf159_1
        try clear zf159_2
        try clear zf159_3
        try clear zf159_4
        try clear zf80_0
        try clear zf80_1
        try clear zf80_2
        try clear zf80_3
        try clear zf80_4
        try clear zf80_5
        try clear zf81_0
        try clear zf81_1
        try clear zf81_2
        try clear zf81_3
        try clear zf81_4
        try clear zf83_0
        try clear zf83_1
        try clear zf83_2
        try clear zf83_3
        try clear zf83_4
        try clear zf83_5
        try clear zf84_0
        try clear zf84_1
        try clear zf84_2
        try clear zf84_3
        try clear zf84_4
        try clear zf86_0
        try clear zf86_1
        try clear zf86_2
        try clear zf86_3
        try clear zf86_4
        try clear zf86_5
        try clear zf87_0
        try clear zf87_1
        try clear zf87_2
        try clear zf87_3
        try clear zf87_4
        try clear zf89_0
        try clear zf89_1
        try clear zf89_2
        try clear zf89_3
        try clear zf89_4
        try clear zf89_5
        try clear zf90_0
        try clear zf90_1
        try clear zf90_2
        try clear zf90_3
        try clear zf90_4
        try clear zf96_0
        try clear zf96_1
        try clear zf96_2
        try clear zf96_3
        try clear zf96_4
        try clear zf96_5
        try clear zf97_0
        try clear zf97_1
        try clear zf97_2
        try clear zf97_3
        try clear zf97_4
        try clear zf99_0
        try clear zf99_1
        try clear zf99_2
        try clear zf99_3
        try clear zf99_4
        try clear zf99_5
        obtain ⟨kq, x123_138, rfl, HA, HJ138, BK256, BK264, HB⟩ := hcut
        cases kq with
        | zero => exact absurd HA.out (by simp [lockgateref02_Check.j3])
        | succ kj138 =>
         have H := HA.out
         clear HA
         simp only [lockgateref02_Check.j3] at H
         by_cases c160 : x123_138 = true
         ·subst c160
          have H1 := if1_ H
          clear H
          have H := H1
          clear H1
          obtain rfl := Option.some.inj H
          go_wp2
          go_ret
          exact ⟨vv_, bz_⟩
         replace c160 := Bool.eq_false_iff.mpr c160
         subst c160
         have H1 := if0_ H
         clear H
         have H := H1
         clear H1
         by_cases c161 : a0_0 = 24
         rotate_left
         ·rw [if_neg c161] at H
          have c161b0 : (a0_0 == 24) = false := beq_eq_false_iff_ne.mpr c161
          have c161b1 : (a0_0 != 24) = true := bne_iff_ne.mpr c161
          obtain rfl := Option.some.inj H
          have hnb176 := NB256_264.out
          have hnc176 := NB264_256.out
          obtain ⟨zc177_0, zc177_1, zc177_2, zc177_3, zc177_4, zf177_0, zf177_1, zf177_2, zf177_3, zf177_4⟩ := k5_ BK256
          go_wp2
          go_ret
          exact ⟨vv_, bz_⟩
         rw [if_pos c161] at H
         have c161b0 : (a0_0 == 24) = true := beq_iff_eq.mpr c161
         have c161b1 : (a0_0 != 24) = false := bne_eq_false_iff_eq.mpr c161
         clear c161
         by_cases c162 : a0_2 > 1
         ·rw [if_pos c162] at H
          have c162b0 : decide (1 < a0_2) = true := decide_eq_true c162
          clear c162
          obtain rfl := Option.some.inj H
          have hnb163 := NB256_264.out
          have hnc163 := NB264_256.out
          obtain ⟨zc164_0, zc164_1, zc164_2, zc164_3, zc164_4, zf164_0, zf164_1, zf164_2, zf164_3, zf164_4⟩ := k5_ BK256
          go_wp2
          go_ret
          exact ⟨vv_, bz_⟩
         rw [if_neg c162] at H
         have c162b0 : decide (1 < a0_2) = false := decide_eq_false c162
         clear c162
         by_cases c165 : a0_2 = 1
         ·rw [if_pos c165] at H
          have c165b0 : (a0_2 == 1) = true := beq_iff_eq.mpr c165
          have c165b1 : (a0_2 != 1) = false := bne_eq_false_iff_eq.mpr c165
          clear c165
          by_cases c166 : a0_4 < 1
          ·rw [if_pos c166] at H
           have c166b0 : decide (a0_4 < 1) = true := decide_eq_true c166
           clear c166
           obtain rfl := Option.some.inj H
           have hnb167 := NB256_264.out
           have hnc167 := NB264_256.out
           obtain ⟨zc168_0, zc168_1, zc168_2, zc168_3, zc168_4, zf168_0, zf168_1, zf168_2, zf168_3, zf168_4⟩ := k5_ BK256
           go_wp2
           go_ret
           exact ⟨vv_, bz_⟩
          rw [if_neg c166] at H
          have c166b0 : decide (a0_4 < 1) = false := decide_eq_false c166
          clear c166
          by_cases c169 : a0_4 > 8
          ·rw [if_pos c169] at H
           have c169b0 : decide (8 < a0_4) = true := decide_eq_true c169
           clear c169
           obtain rfl := Option.some.inj H
           have hnb170 := NB256_264.out
           have hnc170 := NB264_256.out
           obtain ⟨zc171_0, zc171_1, zc171_2, zc171_3, zc171_4, zf171_0, zf171_1, zf171_2, zf171_3, zf171_4⟩ := k5_ BK256
           go_wp2
           go_ret
           exact ⟨vv_, bz_⟩
          rw [if_neg c169] at H
          have c169b0 : decide (8 < a0_4) = false := decide_eq_false c169
          clear c169
          obtain rfl := Option.some.inj H
          have hnb172 := NB256_264.out
          have hnc172 := NB264_256.out
          obtain ⟨zc173_0, zc173_1, zc173_2, zc173_3, zc173_4, zf173_0, zf173_1, zf173_2, zf173_3, zf173_4⟩ := k5_ BK256
          go_wp2
          go_ret
          exact ⟨vv_, bz_⟩
         rw [if_neg c165] at H
         have c165b0 : (a0_2 == 1) = false := beq_eq_false_iff_ne.mpr c165
         have c165b1 : (a0_2 != 1) = true := bne_iff_ne.mpr c165
         obtain rfl := Option.some.inj H
         have hnb174 := NB256_264.out
         have hnc174 := NB264_256.out
         obtain ⟨zc175_0, zc175_1, zc175_2, zc175_3, zc175_4, zf175_0, zf175_1, zf175_2, zf175_3, zf175_4⟩ := k5_ BK256
         go_wp2
         go_ret
         exact ⟨vv_, bz_⟩
end Go.Proofs.Yticijjonimiooaa.PA
