-- PRINTED by print.py (a twelfth state) out of the translation. Not trusted: Lean checks it.
import Derived.Test.YtaplgollkkpnaaaWTab
import Derived.Test.YtaplgollkkpnaaaWGuard
import Derived.Test.YtaplgollkkpnaaaPA0
import Derived.Test.YtaplgollkkpnaaaSq
import Derived.Test.YtaplgollkkpnaaaPA4
import Derived.Test.YtaplgollkkpnaaaPA17
import Derived.Test.YtaplgollkkpnaaaPA18
import Derived.Test.YtaplgollkkpnaaaPA26
import Derived.Test.YtaplgollkkpnaaaPA27
namespace Go.Proofs.Ytaplgollkkpnaaa.PA
open Go.RowKit Go.Proofs.YtaplgollkkpnaaaW.PrintWords Go.Proofs.YtaplgollkkpnaaaW.PrintLast Go.Proofs.YtaplgollkkpnaaaW.PrintMore
attribute [local go_sem] max2_int min2_int max_two min_two max_three min_three max_four min_four   -- for this text's walks alone
set_option linter.unusedVariables false
set_option linter.unusedSimpArgs false

/-! ### lockgatelaw18_KindsReach: function 3 -/
mutual
def lockgatelaw18_KindsReach.j0 : Nat → Int → Int → Bool → List (S37) → Bool → Int → Int → Int → Int → Int → Int → Int → Int → Int → Int → Int → Option (Bool)
 | 0, _, _, _, _, _, _, _, _, _, _, _, _, _, _, _, _ => none
 | k + 1, x1, x2, x3, x4, x36, x512000, x512001, x512002, x512003, x512004, x512005, x512006, x512007, x512008, x512009, x512010 => if x36 = true then ((lockgatelaw18_works.f).bind fun t513 => (some t513)) else (lockgatelaw18_KindsReach.l0 k x1 x2 x3 x4 0 x512000 x512001 x512002 x512003 x512004 x512005 x512006 x512007 x512008 x512009 x512010)
def lockgatelaw18_KindsReach.l0 : Nat → Int → Int → Bool → List (S37) → Int → Int → Int → Int → Int → Int → Int → Int → Int → Int → Int → Int → Option (Bool)
 | 0, _, _, _, _, _, _, _, _, _, _, _, _, _, _, _, _ => none
 | k + 1, x1, x2, x3, x4, x11, x512000, x512001, x512002, x512003, x512004, x512005, x512006, x512007, x512008, x512009, x512010 => if x11 < (x4.length : Int) then (if 0 ≤ x11 then (if ((rd_T37 x4 x11).f2) < 0 then ((lockgatelaw18_works.f).bind fun t515 => (some t515)) else (if ((rd_T37 x4 x11).f2) > 64 then ((lockgatelaw18_works.f).bind fun t517 => (some t517)) else (lockgatelaw18_KindsReach.l0 k x1 x2 x3 x4 (wrap64 (x11 + 1)) x512000 x512001 x512002 x512003 x512004 x512005 x512006 x512007 x512008 x512009 x512010))) else (none)) else ((lockgatekit_LentDecls.f k x4).bind fun t518 => (if 0 ≤ (x4.length : Int) then (if (x4.length : Int) ≤ (t518.length : Int) then ((kinds_Access.f x512000 x512001 x512002 x512003 x512004 x512005 x512006 x512007 x512008 x512009 x512010 x1 x2 x3 (t518.take ((x4.length : Int) : Int).toNat)).bind fun t525 => ((lockgateref18_Access.f k x512000 x512001 x512002 x512003 x512004 x512005 x512006 x512007 x512008 x512009 x512010 x1 x2 x3 x4).bind fun t526 => (if t525 = t526 then ((lockgatekit_KeptDecls.f k t518 x4).bind fun t527 => (if t527 = true then ((lockgatelaw18_works.f).bind fun t528 => (some t528)) else (some false))) else (some false)))) else (none)) else (none)))
end
noncomputable def lockgatelaw18_KindsReach.f (k : Nat) (a0_0 : Int) (a0_1 : Int) (a0_2 : Int) (a0_3 : Int) (a0_4 : Int) (a0_5 : Int) (a0_6 : Int) (a0_7 : Int) (a0_8 : Int) (a0_9 : Int) (a0_10 : Int) (a1 : Int) (a2 : Int) (a3 : Bool) (l4 : List (S37)) : Option (Bool) := (lockgatelaw18_Right.f a0_0 a0_1 a0_2 a0_3 a0_4 a0_5 a0_6 a0_7 a0_8 a0_9 a0_10).bind fun t512 => (if t512 = true then (if a1 < (-32768) then (lockgatelaw18_KindsReach.j0 k a1 a2 a3 l4 true a0_0 a0_1 a0_2 a0_3 a0_4 a0_5 a0_6 a0_7 a0_8 a0_9 a0_10) else (if a1 > 32767 then (lockgatelaw18_KindsReach.j0 k a1 a2 a3 l4 true a0_0 a0_1 a0_2 a0_3 a0_4 a0_5 a0_6 a0_7 a0_8 a0_9 a0_10) else (if a2 < 1 then (lockgatelaw18_KindsReach.j0 k a1 a2 a3 l4 true a0_0 a0_1 a0_2 a0_3 a0_4 a0_5 a0_6 a0_7 a0_8 a0_9 a0_10) else (if a2 > 64 then (lockgatelaw18_KindsReach.j0 k a1 a2 a3 l4 true a0_0 a0_1 a0_2 a0_3 a0_4 a0_5 a0_6 a0_7 a0_8 a0_9 a0_10) else (lockgatelaw18_KindsReach.j0 k a1 a2 a3 l4 (decide ((l4.length : Int) > 100)) a0_0 a0_1 a0_2 a0_3 a0_4 a0_5 a0_6 a0_7 a0_8 a0_9 a0_10))))) else (lockgatelaw18_KindsReach.j0 k a1 a2 a3 l4 true a0_0 a0_1 a0_2 a0_3 a0_4 a0_5 a0_6 a0_7 a0_8 a0_9 a0_10))
theorem lockgatelaw18_KindsReach.mono_l : ∀ k, (∀ y0 y1 y2 y3 y4 y5 y6 y7 y8 y9 y10 y11 y12 y13 y14 y15, LeO (lockgatelaw18_KindsReach.j0 k y0 y1 y2 y3 y4 y5 y6 y7 y8 y9 y10 y11 y12 y13 y14 y15) (lockgatelaw18_KindsReach.j0 (k + 1) y0 y1 y2 y3 y4 y5 y6 y7 y8 y9 y10 y11 y12 y13 y14 y15)) ∧ (∀ y0 y1 y2 y3 y4 y5 y6 y7 y8 y9 y10 y11 y12 y13 y14 y15, LeO (lockgatelaw18_KindsReach.l0 k y0 y1 y2 y3 y4 y5 y6 y7 y8 y9 y10 y11 y12 y13 y14 y15) (lockgatelaw18_KindsReach.l0 (k + 1) y0 y1 y2 y3 y4 y5 y6 y7 y8 y9 y10 y11 y12 y13 y14 y15))
 | 0 => ⟨fun _ _ _ _ _ _ _ _ _ _ _ _ _ _ _ _ r h => by simp [lockgatelaw18_KindsReach.j0] at h, fun _ _ _ _ _ _ _ _ _ _ _ _ _ _ _ _ r h => by simp [lockgatelaw18_KindsReach.l0] at h⟩
 | k + 1 => by
  obtain ⟨ih0, ih1⟩ := lockgatelaw18_KindsReach.mono_l k
  refine ⟨?_, ?_⟩
  ·intro y0 y1 y2 y3 y4 y5 y6 y7 y8 y9 y10 y11 y12 y13 y14 y15
   unfold lockgatelaw18_KindsReach.j0
   repeat' first
   | (with_reducible exact ih0 _ _ _ _ _ _ _ _ _ _ _ _ _ _ _ _)
   | (with_reducible exact ih1 _ _ _ _ _ _ _ _ _ _ _ _ _ _ _ _)
   | (with_reducible exact lockgatekit_KeptDecls.mono _ _ _)
   | (with_reducible exact lockgatekit_LentDecls.mono _ _)
   | (with_reducible exact lockgateref18_Access.mono _ _ _ _ _ _ _ _ _ _ _ _ _ _ _ _)
   | (with_reducible exact LeO.refl _)
   | (with_reducible exact LeO.none _)
   | (with_reducible refine LeO.ite ?_ ?_)
   | (with_reducible refine LeO.bind ?_ (fun _ => ?_))
   | exact ih0 _ _ _ _ _ _ _ _ _ _ _ _ _ _ _ _
   | exact ih1 _ _ _ _ _ _ _ _ _ _ _ _ _ _ _ _
   | exact lockgatekit_KeptDecls.mono _ _ _
   | exact lockgatekit_LentDecls.mono _ _
   | exact lockgateref18_Access.mono _ _ _ _ _ _ _ _ _ _ _ _ _ _ _ _
   | exact LeO.none _
   | refine LeO.ite ?_ ?_
   | refine LeO.bind ?_ (fun _ => ?_)
  ·intro y0 y1 y2 y3 y4 y5 y6 y7 y8 y9 y10 y11 y12 y13 y14 y15
   unfold lockgatelaw18_KindsReach.l0
   repeat' first
   | (with_reducible exact ih0 _ _ _ _ _ _ _ _ _ _ _ _ _ _ _ _)
   | (with_reducible exact ih1 _ _ _ _ _ _ _ _ _ _ _ _ _ _ _ _)
   | (with_reducible exact lockgatekit_KeptDecls.mono _ _ _)
   | (with_reducible exact lockgatekit_LentDecls.mono _ _)
   | (with_reducible exact lockgateref18_Access.mono _ _ _ _ _ _ _ _ _ _ _ _ _ _ _ _)
   | (with_reducible exact LeO.refl _)
   | (with_reducible exact LeO.none _)
   | (with_reducible refine LeO.ite ?_ ?_)
   | (with_reducible refine LeO.bind ?_ (fun _ => ?_))
   | exact ih0 _ _ _ _ _ _ _ _ _ _ _ _ _ _ _ _
   | exact ih1 _ _ _ _ _ _ _ _ _ _ _ _ _ _ _ _
   | exact lockgatekit_KeptDecls.mono _ _ _
   | exact lockgatekit_LentDecls.mono _ _
   | exact lockgateref18_Access.mono _ _ _ _ _ _ _ _ _ _ _ _ _ _ _ _
   | exact LeO.none _
   | refine LeO.ite ?_ ?_
   | refine LeO.bind ?_ (fun _ => ?_)
theorem lockgatelaw18_KindsReach.mono : ∀ a0 a1 a2 a3 a4 a5 a6 a7 a8 a9 a10 a11 a12 a13 a14 k, LeO (lockgatelaw18_KindsReach.f k a0 a1 a2 a3 a4 a5 a6 a7 a8 a9 a10 a11 a12 a13 a14) (lockgatelaw18_KindsReach.f (k + 1) a0 a1 a2 a3 a4 a5 a6 a7 a8 a9 a10 a11 a12 a13 a14) := by
 intro a0 a1 a2 a3 a4 a5 a6 a7 a8 a9 a10 a11 a12 a13 a14 k
 obtain ⟨ih0, ih1⟩ := lockgatelaw18_KindsReach.mono_l k
 unfold lockgatelaw18_KindsReach.f
 repeat' first
  | (with_reducible exact ih0 _ _ _ _ _ _ _ _ _ _ _ _ _ _ _ _)
  | (with_reducible exact ih1 _ _ _ _ _ _ _ _ _ _ _ _ _ _ _ _)
  | (with_reducible exact lockgatekit_KeptDecls.mono _ _ _)
  | (with_reducible exact lockgatekit_LentDecls.mono _ _)
  | (with_reducible exact lockgateref18_Access.mono _ _ _ _ _ _ _ _ _ _ _ _ _ _ _ _)
  | (with_reducible exact LeO.refl _)
  | (with_reducible exact LeO.none _)
  | (with_reducible refine LeO.ite ?_ ?_)
  | (with_reducible refine LeO.bind ?_ (fun _ => ?_))
  | exact ih0 _ _ _ _ _ _ _ _ _ _ _ _ _ _ _ _
  | exact ih1 _ _ _ _ _ _ _ _ _ _ _ _ _ _ _ _
  | exact lockgatekit_KeptDecls.mono _ _ _
  | exact lockgatekit_LentDecls.mono _ _
  | exact lockgateref18_Access.mono _ _ _ _ _ _ _ _ _ _ _ _ _ _ _ _
  | exact LeO.none _
  | refine LeO.ite ?_ ?_
  | refine LeO.bind ?_ (fun _ => ?_)
def lockgatelaw18_KindsReach.T9 : Bool × List (List Nat × List Nat) := (true, [([], []), ([], []), ([], []), ([], []), ([], []), ([], []), ([5], [5]), ([4, 6], [4, 6]), ([0, 1, 2, 3, 7], [0, 1, 2, 3, 7]), ([], []), ([], []), ([], []), ([], []), ([], []), ([9, 10, 11, 12, 13, 8], [9, 10, 11, 12, 13]), ([8, 14], [8, 14]), ([15, 14], [15]), ([16], [16]), ([16], [16]), ([17, 18, 16, 16], [16, 17, 18]), ([16, 19], [16, 19]), ([20, 19], [20]), ([21, 21], [21]), ([21, 22], [21, 22]), ([23, 22, 0, 1, 2, 3, 4, 5, 6, 7, 8, 9, 10, 11, 12, 13, 14, 15, 16, 17, 18, 19, 20, 21, 22, 23], [23])])
def lockgatelaw18_KindsReach.B9 : List Nat := [0, 0, 0, 0, 0, 0, 32, 112, 255, 0, 0, 0, 0, 0, 16383, 32767, 65535, 131071, 131071, 524287, 1048575, 2097151, 4194303, 8388607, 16777215]
theorem lockgatelaw18_KindsReach.tab9 : rtab .any (opsOf Try.f3 9) = lockgatelaw18_KindsReach.T9 := by kernel_rfl
theorem lockgatelaw18_KindsReach.bits9 : waitsOk lockgatelaw18_KindsReach.T9.2 lockgatelaw18_KindsReach.B9 = true := by kernel_rfl
set_option maxHeartbeats 8000000 in
set_option maxRecDepth 100000 in
theorem lockgatelaw18_KindsReach.calls (k : Nat) (a0_0 : Int) (a0_1 : Int) (a0_2 : Int) (a0_3 : Int) (a0_4 : Int) (a0_5 : Int) (a0_6 : Int) (a0_7 : Int) (a0_8 : Int) (a0_9 : Int) (a0_10 : Int) (a1 : Int) (a2 : Int) (a3 : Bool) (A4 : Option Addr) (c4 : Nat) (l4 : List (S37)) (r : Bool) (w : World) (hr4 : Kd.C k37 w A4 l4.length l4) (hc4 : l4.length ≤ c4) (HRT : Aside0 (r = true)) (h : lockgatelaw18_KindsReach.f k a0_0 a0_1 a0_2 a0_3 a0_4 a0_5 a0_6 a0_7 a0_8 a0_9 a0_10 a1 a2 a3 l4 = some r) :
 Calls Try.prog 3 #[.agg #[.int .i64 a0_0, .int .u64 a0_1, .int .u64 a0_2, .int .u64 a0_3, .int .u64 a0_4, .int .i64 a0_5, .int .i64 a0_6, .int .i64 a0_7, .int .i64 a0_8, .int .i64 a0_9, .int .i64 a0_10], .int .i64 a1, .int .i64 a2, .bool a3, .slice A4 l4.length c4] w fun e w' => e = .returned (.bool r) ∧ Below w.heap.size w w' := by
 have hu32 := Try.underlying32
 have HR4 := Aside0.mk hr4
 have HC4 := Aside0.mk hc4
 clear hr4 hc4
 have HB := Aside0.mk (Below.refl w.heap.size w)
 have H : ((lockgatelaw18_Right.f a0_0 a0_1 a0_2 a0_3 a0_4 a0_5 a0_6 a0_7 a0_8 a0_9 a0_10).bind fun t512 => (if t512 = true then (if a1 < (-32768) then (lockgatelaw18_KindsReach.j0 k a1 a2 a3 l4 true a0_0 a0_1 a0_2 a0_3 a0_4 a0_5 a0_6 a0_7 a0_8 a0_9 a0_10) else (if a1 > 32767 then (lockgatelaw18_KindsReach.j0 k a1 a2 a3 l4 true a0_0 a0_1 a0_2 a0_3 a0_4 a0_5 a0_6 a0_7 a0_8 a0_9 a0_10) else (if a2 < 1 then (lockgatelaw18_KindsReach.j0 k a1 a2 a3 l4 true a0_0 a0_1 a0_2 a0_3 a0_4 a0_5 a0_6 a0_7 a0_8 a0_9 a0_10) else (if a2 > 64 then (lockgatelaw18_KindsReach.j0 k a1 a2 a3 l4 true a0_0 a0_1 a0_2 a0_3 a0_4 a0_5 a0_6 a0_7 a0_8 a0_9 a0_10) else (lockgatelaw18_KindsReach.j0 k a1 a2 a3 l4 (decide ((l4.length : Int) > 100)) a0_0 a0_1 a0_2 a0_3 a0_4 a0_5 a0_6 a0_7 a0_8 a0_9 a0_10))))) else (lockgatelaw18_KindsReach.j0 k a1 a2 a3 l4 true a0_0 a0_1 a0_2 a0_3 a0_4 a0_5 a0_6 a0_7 a0_8 a0_9 a0_10))) = some r := h
 clear h
 have HC6 := Aside0.mk H
 clear H
 go_enter Try.func3, Try.ntmps3
 go_upto_region 1 with (first | ((with_reducible refine gate_dst (N := 5) rfl ?_); (try (refine gate_guard (by rfl) ?_; dsimp only)); refine bx_ 5 #[.int .i64 a0_0, .int .u64 a0_1, .int .u64 a0_2, .int .u64 a0_3, .int .u64 a0_4, .int .i64 a0_5, .int .i64 a0_6, .int .i64 a0_7, .int .i64 a0_8, .int .i64 a0_9, .int .i64 a0_10] 32 ?_; intro gb511 hg w7 BK511 hb; have GW511 := bg_ hg; have GE511 := GW511; replace HB := bl_ hb; clear hb hg))
 (try simp only [Act.put, s1_, s2_, s3_])
 go_cut [36] (fun v36 wc => ∃ (kq : Nat) (x36_5 : Bool), v36 = .bool x36_5 ∧ Aside0 (lockgatelaw18_KindsReach.j0 kq a1 a2 a3 l4 x36_5 a0_0 a0_1 a0_2 a0_3 a0_4 a0_5 a0_6 a0_7 a0_8 a0_9 a0_10 = some r) ∧ Aside0 (kq ≤ k) ∧ Aside0 (wc.heap[gb511]? = some (.cells #[.int .i64 a0_0, .int .u64 a0_1, .int .u64 a0_2, .int .u64 a0_3, .int .u64 a0_4, .int .i64 a0_5, .int .i64 a0_6, .int .i64 a0_7, .int .i64 a0_8, .int .i64 a0_9, .int .i64 a0_10] 32 (0, 0))) ∧ Aside0 (Below w.heap.size w wc))
 case first =>
  have H := HC6.out
  clear HC6
  replace H := Option.bind_eq_some_iff.mp H
  obtain ⟨t512, A80, H⟩ := H
  replace H : (if t512 = true then (if a1 < (-32768) then (lockgatelaw18_KindsReach.j0 k a1 a2 a3 l4 true a0_0 a0_1 a0_2 a0_3 a0_4 a0_5 a0_6 a0_7 a0_8 a0_9 a0_10) else (if a1 > 32767 then (lockgatelaw18_KindsReach.j0 k a1 a2 a3 l4 true a0_0 a0_1 a0_2 a0_3 a0_4 a0_5 a0_6 a0_7 a0_8 a0_9 a0_10) else (if a2 < 1 then (lockgatelaw18_KindsReach.j0 k a1 a2 a3 l4 true a0_0 a0_1 a0_2 a0_3 a0_4 a0_5 a0_6 a0_7 a0_8 a0_9 a0_10) else (if a2 > 64 then (lockgatelaw18_KindsReach.j0 k a1 a2 a3 l4 true a0_0 a0_1 a0_2 a0_3 a0_4 a0_5 a0_6 a0_7 a0_8 a0_9 a0_10) else (lockgatelaw18_KindsReach.j0 k a1 a2 a3 l4 (decide ((l4.length : Int) > 100)) a0_0 a0_1 a0_2 a0_3 a0_4 a0_5 a0_6 a0_7 a0_8 a0_9 a0_10))))) else (lockgatelaw18_KindsReach.j0 k a1 a2 a3 l4 true a0_0 a0_1 a0_2 a0_3 a0_4 a0_5 a0_6 a0_7 a0_8 a0_9 a0_10)) = some r := H
  have A8 := Aside0.mk A80
  clear A80
  by_cases c9 : t512 = true
  ·subst c9
   have H1 : (if a1 < (-32768) then (lockgatelaw18_KindsReach.j0 k a1 a2 a3 l4 true a0_0 a0_1 a0_2 a0_3 a0_4 a0_5 a0_6 a0_7 a0_8 a0_9 a0_10) else (if a1 > 32767 then (lockgatelaw18_KindsReach.j0 k a1 a2 a3 l4 true a0_0 a0_1 a0_2 a0_3 a0_4 a0_5 a0_6 a0_7 a0_8 a0_9 a0_10) else (if a2 < 1 then (lockgatelaw18_KindsReach.j0 k a1 a2 a3 l4 true a0_0 a0_1 a0_2 a0_3 a0_4 a0_5 a0_6 a0_7 a0_8 a0_9 a0_10) else (if a2 > 64 then (lockgatelaw18_KindsReach.j0 k a1 a2 a3 l4 true a0_0 a0_1 a0_2 a0_3 a0_4 a0_5 a0_6 a0_7 a0_8 a0_9 a0_10) else (lockgatelaw18_KindsReach.j0 k a1 a2 a3 l4 (decide ((l4.length : Int) > 100)) a0_0 a0_1 a0_2 a0_3 a0_4 a0_5 a0_6 a0_7 a0_8 a0_9 a0_10))))) = some r := by rw [if_pos rfl] at H; exact H
   clear H
   have H := H1
   clear H1
   by_cases c10 : a1 < (-32768)
   ·rw [if_pos c10] at H
    have c10b0 : decide (a1 < (-32768)) = true := decide_eq_true c10
    clear c10
    (first | rw [c10b0] | (simp only [i64_w, i32_w]; rw [c10b0]) | skip)
    have H' := Aside0.mk H
    clear H
    have zc11_0 := c0_ BK511
    have zc11_1 := c1_ BK511
    have zc11_2 := c2_ BK511
    have zc11_3 := c3_ BK511
    have zc11_4 := c4_ BK511
    have zc11_5 := c5_ BK511
    have zc11_6 := c6_ BK511
    have zc11_7 := c7_ BK511
    have zc11_8 : w7.cell? ⟨gb511, 8, none⟩ = some (.int .i64 a0_8) := (blk_cell BK511.out 8).trans rfl
    have zc11_9 : w7.cell? ⟨gb511, 9, none⟩ = some (.int .i64 a0_9) := (blk_cell BK511.out 9).trans rfl
    have zc11_10 : w7.cell? ⟨gb511, 10, none⟩ = some (.int .i64 a0_10) := (blk_cell BK511.out 10).trans rfl
    have zf11_0 := fz_ BK511 0
    have zf11_1 := fz_ BK511 1
    have zf11_2 := fz_ BK511 2
    have zf11_3 := fz_ BK511 3
    have zf11_4 := fz_ BK511 4
    have zf11_5 := fz_ BK511 5
    have zf11_6 := fz_ BK511 6
    have zf11_7 := fz_ BK511 7
    have zf11_8 := fz_ BK511 8
    have zf11_9 := fz_ BK511 9
    have zf11_10 := fz_ BK511 10
    go_wp2_with (first | ((with_reducible refine gate_callee (f := 6) rfl ?_); refine gM_ 14 Try.func6 (lockgatelaw18_Right.calls a0_0 a0_1 a0_2 a0_3 a0_4 a0_5 a0_6 a0_7 a0_8 a0_9 a0_10 true _ A8.out) ?_; intro w12 hb; replace BK511 := bb_ hb BK511; replace HB := bl_ hb; (try clear hb); (try clear hb2); (try clear hk); (try clear hi)))
    go_meet
    case rel => exact ⟨_, (true), (by first | rfl | (simp; done) | (simp [*]; done)), H', ⟨by first | omega | exact Nat.le_refl _⟩, ⟨bk_⟩, ⟨bz_⟩⟩
   ·rw [if_neg c10] at H
    have c10b0 : decide (a1 < (-32768)) = false := decide_eq_false c10
    clear c10
    (first | rw [c10b0] | (simp only [i64_w, i32_w]; rw [c10b0]) | skip)
    by_cases c13 : a1 > 32767
    ·rw [if_pos c13] at H
     have c13b0 : decide (32767 < a1) = true := decide_eq_true c13
     clear c13
     have H' := Aside0.mk H
     clear H
     have zc14_0 := c0_ BK511
     have zc14_1 := c1_ BK511
     have zc14_2 := c2_ BK511
     have zc14_3 := c3_ BK511
     have zc14_4 := c4_ BK511
     have zc14_5 := c5_ BK511
     have zc14_6 := c6_ BK511
     have zc14_7 := c7_ BK511
     have zc14_8 : w7.cell? ⟨gb511, 8, none⟩ = some (.int .i64 a0_8) := (blk_cell BK511.out 8).trans rfl
     have zc14_9 : w7.cell? ⟨gb511, 9, none⟩ = some (.int .i64 a0_9) := (blk_cell BK511.out 9).trans rfl
     have zc14_10 : w7.cell? ⟨gb511, 10, none⟩ = some (.int .i64 a0_10) := (blk_cell BK511.out 10).trans rfl
     have zf14_0 := fz_ BK511 0
     have zf14_1 := fz_ BK511 1
     have zf14_2 := fz_ BK511 2
     have zf14_3 := fz_ BK511 3
     have zf14_4 := fz_ BK511 4
     have zf14_5 := fz_ BK511 5
     have zf14_6 := fz_ BK511 6
     have zf14_7 := fz_ BK511 7
     have zf14_8 := fz_ BK511 8
     have zf14_9 := fz_ BK511 9
     have zf14_10 := fz_ BK511 10
     go_wp2_with (first | ((with_reducible refine gate_callee (f := 6) rfl ?_); refine gM_ 14 Try.func6 (lockgatelaw18_Right.calls a0_0 a0_1 a0_2 a0_3 a0_4 a0_5 a0_6 a0_7 a0_8 a0_9 a0_10 true _ A8.out) ?_; intro w15 hb; replace BK511 := bb_ hb BK511; replace HB := bl_ hb; (try clear hb); (try clear hb2); (try clear hk); (try clear hi)))
     go_meet
     case rel => exact ⟨_, (true), (by first | rfl | (simp; done) | (simp [*]; done)), H', ⟨by first | omega | exact Nat.le_refl _⟩, ⟨bk_⟩, ⟨bz_⟩⟩
    ·rw [if_neg c13] at H
     have c13b0 : decide (32767 < a1) = false := decide_eq_false c13
     clear c13
     by_cases c16 : a2 < 1
     ·rw [if_pos c16] at H
      have c16b0 : decide (a2 < 1) = true := decide_eq_true c16
      clear c16
      have H' := Aside0.mk H
      clear H
      have zc17_0 := c0_ BK511
      have zc17_1 := c1_ BK511
      have zc17_2 := c2_ BK511
      have zc17_3 := c3_ BK511
      have zc17_4 := c4_ BK511
      have zc17_5 := c5_ BK511
      have zc17_6 := c6_ BK511
      have zc17_7 := c7_ BK511
      have zc17_8 : w7.cell? ⟨gb511, 8, none⟩ = some (.int .i64 a0_8) := (blk_cell BK511.out 8).trans rfl
      have zc17_9 : w7.cell? ⟨gb511, 9, none⟩ = some (.int .i64 a0_9) := (blk_cell BK511.out 9).trans rfl
      have zc17_10 : w7.cell? ⟨gb511, 10, none⟩ = some (.int .i64 a0_10) := (blk_cell BK511.out 10).trans rfl
      have zf17_0 := fz_ BK511 0
      have zf17_1 := fz_ BK511 1
      have zf17_2 := fz_ BK511 2
      have zf17_3 := fz_ BK511 3
      have zf17_4 := fz_ BK511 4
      have zf17_5 := fz_ BK511 5
      have zf17_6 := fz_ BK511 6
      have zf17_7 := fz_ BK511 7
      have zf17_8 := fz_ BK511 8
      have zf17_9 := fz_ BK511 9
      have zf17_10 := fz_ BK511 10
      go_wp2_with (first | ((with_reducible refine gate_callee (f := 6) rfl ?_); refine gM_ 14 Try.func6 (lockgatelaw18_Right.calls a0_0 a0_1 a0_2 a0_3 a0_4 a0_5 a0_6 a0_7 a0_8 a0_9 a0_10 true _ A8.out) ?_; intro w18 hb; replace BK511 := bb_ hb BK511; replace HB := bl_ hb; (try clear hb); (try clear hb2); (try clear hk); (try clear hi)))
      go_meet
      case rel => exact ⟨_, (true), (by first | rfl | (simp; done) | (simp [*]; done)), H', ⟨by first | omega | exact Nat.le_refl _⟩, ⟨bk_⟩, ⟨bz_⟩⟩
     ·rw [if_neg c16] at H
      have c16b0 : decide (a2 < 1) = false := decide_eq_false c16
      clear c16
      by_cases c19 : a2 > 64
      ·rw [if_pos c19] at H
       have c19b0 : decide (64 < a2) = true := decide_eq_true c19
       clear c19
       have H' := Aside0.mk H
       clear H
       have zc20_0 := c0_ BK511
       have zc20_1 := c1_ BK511
       have zc20_2 := c2_ BK511
       have zc20_3 := c3_ BK511
       have zc20_4 := c4_ BK511
       have zc20_5 := c5_ BK511
       have zc20_6 := c6_ BK511
       have zc20_7 := c7_ BK511
       have zc20_8 : w7.cell? ⟨gb511, 8, none⟩ = some (.int .i64 a0_8) := (blk_cell BK511.out 8).trans rfl
       have zc20_9 : w7.cell? ⟨gb511, 9, none⟩ = some (.int .i64 a0_9) := (blk_cell BK511.out 9).trans rfl
       have zc20_10 : w7.cell? ⟨gb511, 10, none⟩ = some (.int .i64 a0_10) := (blk_cell BK511.out 10).trans rfl
       have zf20_0 := fz_ BK511 0
       have zf20_1 := fz_ BK511 1
       have zf20_2 := fz_ BK511 2
       have zf20_3 := fz_ BK511 3
       have zf20_4 := fz_ BK511 4
       have zf20_5 := fz_ BK511 5
       have zf20_6 := fz_ BK511 6
       have zf20_7 := fz_ BK511 7
       have zf20_8 := fz_ BK511 8
       have zf20_9 := fz_ BK511 9
       have zf20_10 := fz_ BK511 10
       go_wp2_with (first | ((with_reducible refine gate_callee (f := 6) rfl ?_); refine gM_ 14 Try.func6 (lockgatelaw18_Right.calls a0_0 a0_1 a0_2 a0_3 a0_4 a0_5 a0_6 a0_7 a0_8 a0_9 a0_10 true _ A8.out) ?_; intro w21 hb; replace BK511 := bb_ hb BK511; replace HB := bl_ hb; (try clear hb); (try clear hb2); (try clear hk); (try clear hi)))
       go_meet
       case rel => exact ⟨_, (true), (by first | rfl | (simp; done) | (simp [*]; done)), H', ⟨by first | omega | exact Nat.le_refl _⟩, ⟨bk_⟩, ⟨bz_⟩⟩
      ·rw [if_neg c19] at H
       have c19b0 : decide (64 < a2) = false := decide_eq_false c19
       clear c19
       have H' := Aside0.mk H
       clear H
       have zc22_0 := c0_ BK511
       have zc22_1 := c1_ BK511
       have zc22_2 := c2_ BK511
       have zc22_3 := c3_ BK511
       have zc22_4 := c4_ BK511
       have zc22_5 := c5_ BK511
       have zc22_6 := c6_ BK511
       have zc22_7 := c7_ BK511
       have zc22_8 : w7.cell? ⟨gb511, 8, none⟩ = some (.int .i64 a0_8) := (blk_cell BK511.out 8).trans rfl
       have zc22_9 : w7.cell? ⟨gb511, 9, none⟩ = some (.int .i64 a0_9) := (blk_cell BK511.out 9).trans rfl
       have zc22_10 : w7.cell? ⟨gb511, 10, none⟩ = some (.int .i64 a0_10) := (blk_cell BK511.out 10).trans rfl
       have zf22_0 := fz_ BK511 0
       have zf22_1 := fz_ BK511 1
       have zf22_2 := fz_ BK511 2
       have zf22_3 := fz_ BK511 3
       have zf22_4 := fz_ BK511 4
       have zf22_5 := fz_ BK511 5
       have zf22_6 := fz_ BK511 6
       have zf22_7 := fz_ BK511 7
       have zf22_8 := fz_ BK511 8
       have zf22_9 := fz_ BK511 9
       have zf22_10 := fz_ BK511 10
       go_wp2_with (first | ((with_reducible refine gate_callee (f := 6) rfl ?_); refine gM_ 14 Try.func6 (lockgatelaw18_Right.calls a0_0 a0_1 a0_2 a0_3 a0_4 a0_5 a0_6 a0_7 a0_8 a0_9 a0_10 true _ A8.out) ?_; intro w23 hb; replace BK511 := bb_ hb BK511; replace HB := bl_ hb; (try clear hb); (try clear hb2); (try clear hk); (try clear hi)))
       go_meet
       case rel => exact ⟨_, (decide ((l4.length : Int) > 100)), (by first | rfl | (simp; done) | (simp [*]; done)), H', ⟨by first | omega | exact Nat.le_refl _⟩, ⟨bk_⟩, ⟨bz_⟩⟩
  ·replace c9 := Bool.eq_false_iff.mpr c9
   subst c9
   have H1 : (lockgatelaw18_KindsReach.j0 k a1 a2 a3 l4 true a0_0 a0_1 a0_2 a0_3 a0_4 a0_5 a0_6 a0_7 a0_8 a0_9 a0_10) = some r := by rw [if_neg (show ¬ (false = true) by decide)] at H; exact H
   clear H
   have H := H1
   clear H1
   have H' := Aside0.mk H
   clear H
   have zc24_0 := c0_ BK511
   have zc24_1 := c1_ BK511
   have zc24_2 := c2_ BK511
   have zc24_3 := c3_ BK511
   have zc24_4 := c4_ BK511
   have zc24_5 := c5_ BK511
   have zc24_6 := c6_ BK511
   have zc24_7 := c7_ BK511
   have zc24_8 : w7.cell? ⟨gb511, 8, none⟩ = some (.int .i64 a0_8) := (blk_cell BK511.out 8).trans rfl
   have zc24_9 : w7.cell? ⟨gb511, 9, none⟩ = some (.int .i64 a0_9) := (blk_cell BK511.out 9).trans rfl
   have zc24_10 : w7.cell? ⟨gb511, 10, none⟩ = some (.int .i64 a0_10) := (blk_cell BK511.out 10).trans rfl
   have zf24_0 := fz_ BK511 0
   have zf24_1 := fz_ BK511 1
   have zf24_2 := fz_ BK511 2
   have zf24_3 := fz_ BK511 3
   have zf24_4 := fz_ BK511 4
   have zf24_5 := fz_ BK511 5
   have zf24_6 := fz_ BK511 6
   have zf24_7 := fz_ BK511 7
   have zf24_8 := fz_ BK511 8
   have zf24_9 := fz_ BK511 9
   have zf24_10 := fz_ BK511 10
   go_wp2_with (first | ((with_reducible refine gate_callee (f := 6) rfl ?_); refine gM_ 14 Try.func6 (lockgatelaw18_Right.calls a0_0 a0_1 a0_2 a0_3 a0_4 a0_5 a0_6 a0_7 a0_8 a0_9 a0_10 false _ A8.out) ?_; intro w25 hb; replace BK511 := bb_ hb BK511; replace HB := bl_ hb; (try clear hb); (try clear hb2); (try clear hk); (try clear hi)))
   go_meet
   case rel => exact ⟨_, (true), (by first | rfl | (simp; done) | (simp [*]; done)), H', ⟨by first | omega | exact Nat.le_refl _⟩, ⟨bk_⟩, ⟨bz_⟩⟩
 case rest =>
  clear HC6
  try clear c1
  try clear p2
  try clear c3
  try clear c4
  try clear c6
  try clear c9
  try clear c10
  try clear c10b0
  try clear c13
  try clear c13b0
  try clear c16
  try clear c16b0
  try clear c19
  try clear c19b0
  try clear zc11_0
  try clear zc11_1
  try clear zc11_10
  try clear zc11_2
  try clear zc11_3
  try clear zc11_4
  try clear zc11_5
  try clear zc11_6
  try clear zc11_7
  try clear zc11_8
  try clear zc11_9
  try clear zc14_0
  try clear zc14_1
  try clear zc14_10
  try clear zc14_2
  try clear zc14_3
  try clear zc14_4
  try clear zc14_5
  try clear zc14_6
  try clear zc14_7
  try clear zc14_8
  try clear zc14_9
  try clear zc17_0
  try clear zc17_1
  try clear zc17_10
  try clear zc17_2
  try clear zc17_3
  try clear zc17_4
  try clear zc17_5
  try clear zc17_6
  try clear zc17_7
  try clear zc17_8
  try clear zc17_9
  try clear zc20_0
  try clear zc20_1
  try clear zc20_10
  try clear zc20_2
  try clear zc20_3
  try clear zc20_4
  try clear zc20_5
  try clear zc20_6
  try clear zc20_7
  try clear zc20_8
  try clear zc20_9
  try clear zc22_0
  try clear zc22_1
  try clear zc22_10
  try clear zc22_2
  try clear zc22_3
  try clear zc22_4
  try clear zc22_5
  try clear zc22_6
  try clear zc22_7
  try clear zc22_8
  try clear zc22_9
  try clear zc24_0
  try clear zc24_1
  try clear zc24_10
  try clear zc24_2
  try clear zc24_3
  try clear zc24_4
  try clear zc24_5
  try clear zc24_6
  try clear zc24_7
  try clear zc24_8
  try clear zc24_9
  try clear zf11_0
  try clear zf11_1
  try clear zf11_10
  try clear zf11_2
  try clear zf11_3
  try clear zf11_4
  try clear zf11_5
  try clear zf11_6
  try clear zf11_7
  try clear zf11_8
  try clear zf11_9
  try clear zf14_0
  try clear zf14_1
  try clear zf14_10
  try clear zf14_2
  try clear zf14_3
  try clear zf14_4
  try clear zf14_5
  try clear zf14_6
  try clear zf14_7
  try clear zf14_8
  try clear zf14_9
  try clear zf17_0
  try clear zf17_1
  try clear zf17_10
  try clear zf17_2
  try clear zf17_3
  try clear zf17_4
  try clear zf17_5
  try clear zf17_6
  try clear zf17_7
  try clear zf17_8
  try clear zf17_9
  try clear zf20_0
  try clear zf20_1
  try clear zf20_10
  try clear zf20_2
  try clear zf20_3
  try clear zf20_4
  try clear zf20_5
  try clear zf20_6
  try clear zf20_7
  try clear zf20_8
  try clear zf20_9
  try clear zf22_0
  try clear zf22_1
  try clear zf22_10
  try clear zf22_2
  try clear zf22_3
  try clear zf22_4
  try clear zf22_5
  try clear zf22_6
  try clear zf22_7
  try clear zf22_8
  try clear zf22_9
  try clear zf24_0
  try clear zf24_1
  try clear zf24_10
  try clear zf24_2
  try clear zf24_3
  try clear zf24_4
  try clear zf24_5
  try clear zf24_6
  try clear zf24_7
  try clear zf24_8
  try clear zf24_9
  obtain ⟨kq, x36_5, rfl, HA, HJ5, BK511, HB⟩ := hcut
  cases kq with
  | zero => exact absurd HA.out (by simp [lockgatelaw18_KindsReach.j0])
  | succ kj5 =>
   have H := HA.out
   clear HA
   simp only [lockgatelaw18_KindsReach.j0] at H
   by_cases c26 : x36_5 = true
   ·subst c26
    have H1 : ((lockgatelaw18_works.f).bind fun t513 => (some t513)) = some r := by rw [if_pos rfl] at H; exact H
    clear H
    have H := H1
    clear H1
    replace H := Option.bind_eq_some_iff.mp H
    obtain ⟨t513, A270, H⟩ := H
    replace H : (some t513) = some r := H
    have A27 := Aside0.mk A270
    clear A270
    obtain rfl := Option.some.inj H
    go_wp2_with (first | ((with_reducible refine gate_callee (f := 7) rfl ?_); refine gM_ 37 Try.func7 (lockgatelaw18_works.calls  t513 _ A27.out) ?_; intro w28 hb; replace BK511 := bb_ hb BK511; replace HB := bl_ hb; (try clear hb); (try clear hb2); (try clear hk); (try clear hi)))
    go_ret
    exact ⟨vv_, bz_⟩
   ·replace c26 := Bool.eq_false_iff.mpr c26
    subst c26
    have H1 : (lockgatelaw18_KindsReach.l0 kj5 a1 a2 a3 l4 0 a0_0 a0_1 a0_2 a0_3 a0_4 a0_5 a0_6 a0_7 a0_8 a0_9 a0_10) = some r := by rw [if_neg (show ¬ (false = true) by decide)] at H; exact H
    clear H
    have H := H1
    clear H1
    have H' := Aside0.mk H
    clear H
    go_wp2
    go_loopg [11] kj5 (fun kq v11 w' => ∃ (x11_2 : Int), v11 = .int .i64 x11_2 ∧ Aside0 (lockgatelaw18_KindsReach.l0 kq a1 a2 a3 l4 x11_2 a0_0 a0_1 a0_2 a0_3 a0_4 a0_5 a0_6 a0_7 a0_8 a0_9 a0_10 = some r) ∧ Aside0 (kq ≤ kj5) ∧ Aside0 (w'.heap[gb511]? = some (.cells #[.int .i64 a0_0, .int .u64 a0_1, .int .u64 a0_2, .int .u64 a0_3, .int .u64 a0_4, .int .i64 a0_5, .int .i64 a0_6, .int .i64 a0_7, .int .i64 a0_8, .int .i64 a0_9, .int .i64 a0_10] 32 (0, 0))) ∧ Aside0 (Below w.heap.size w w'))
    case atStart => exact ⟨(0), (by first | rfl | (simp; done) | (simp [*]; done)), H', ⟨Nat.le_refl _⟩, ⟨bk_⟩, ⟨bz_⟩⟩
    case round =>
     clear H'
     try clear c1
     try clear c2
     try clear p2
     try clear c3
     try clear c4
     try clear c6
     try clear c7
     try clear c9
     try clear c10
     try clear c10b0
     try clear c13
     try clear c13b0
     try clear c16
     try clear c16b0
     try clear c19
     try clear c19b0
     try clear c26
     try clear zc11_0
     try clear zc11_1
     try clear zc11_10
     try clear zc11_2
     try clear zc11_3
     try clear zc11_4
     try clear zc11_5
     try clear zc11_6
     try clear zc11_7
     try clear zc11_8
     try clear zc11_9
     try clear zc14_0
     try clear zc14_1
     try clear zc14_10
     try clear zc14_2
     try clear zc14_3
     try clear zc14_4
     try clear zc14_5
     try clear zc14_6
     try clear zc14_7
     try clear zc14_8
     try clear zc14_9
     try clear zc17_0
     try clear zc17_1
     try clear zc17_10
     try clear zc17_2
     try clear zc17_3
     try clear zc17_4
     try clear zc17_5
     try clear zc17_6
     try clear zc17_7
     try clear zc17_8
     try clear zc17_9
     try clear zc20_0
     try clear zc20_1
     try clear zc20_10
     try clear zc20_2
     try clear zc20_3
     try clear zc20_4
     try clear zc20_5
     try clear zc20_6
     try clear zc20_7
     try clear zc20_8
     try clear zc20_9
     try clear zc22_0
     try clear zc22_1
     try clear zc22_10
     try clear zc22_2
     try clear zc22_3
     try clear zc22_4
     try clear zc22_5
     try clear zc22_6
     try clear zc22_7
     try clear zc22_8
     try clear zc22_9
     try clear zc24_0
     try clear zc24_1
     try clear zc24_10
     try clear zc24_2
     try clear zc24_3
     try clear zc24_4
     try clear zc24_5
     try clear zc24_6
     try clear zc24_7
     try clear zc24_8
     try clear zc24_9
     try clear zf11_0
     try clear zf11_1
     try clear zf11_10
     try clear zf11_2
     try clear zf11_3
     try clear zf11_4
     try clear zf11_5
     try clear zf11_6
     try clear zf11_7
     try clear zf11_8
     try clear zf11_9
     try clear zf14_0
     try clear zf14_1
     try clear zf14_10
     try clear zf14_2
     try clear zf14_3
     try clear zf14_4
     try clear zf14_5
     try clear zf14_6
     try clear zf14_7
     try clear zf14_8
     try clear zf14_9
     try clear zf17_0
     try clear zf17_1
     try clear zf17_10
     try clear zf17_2
     try clear zf17_3
     try clear zf17_4
     try clear zf17_5
     try clear zf17_6
     try clear zf17_7
     try clear zf17_8
     try clear zf17_9
     try clear zf20_0
     try clear zf20_1
     try clear zf20_10
     try clear zf20_2
     try clear zf20_3
     try clear zf20_4
     try clear zf20_5
     try clear zf20_6
     try clear zf20_7
     try clear zf20_8
     try clear zf20_9
     try clear zf22_0
     try clear zf22_1
     try clear zf22_10
     try clear zf22_2
     try clear zf22_3
     try clear zf22_4
     try clear zf22_5
     try clear zf22_6
     try clear zf22_7
     try clear zf22_8
     try clear zf22_9
     try clear zf24_0
     try clear zf24_1
     try clear zf24_10
     try clear zf24_2
     try clear zf24_3
     try clear zf24_4
     try clear zf24_5
     try clear zf24_6
     try clear zf24_7
     try clear zf24_8
     try clear zf24_9
     try clear p2
     obtain ⟨x11_2, rfl, HA, HK2, BK511, HB⟩ := hrel
     cases gk with
     | zero => exact absurd HA.out (by simp [lockgatelaw18_KindsReach.l0])
     | succ k2 =>
      have H := HA.out
      clear HA
      simp only [lockgatelaw18_KindsReach.l0] at H
      by_cases c29 : x11_2 < (l4.length : Int)
      ·rw [if_pos c29] at H
       have c29b0 : decide (x11_2 < (l4.length : Int)) = true := decide_eq_true c29
       clear c29
       by_cases c30 : 0 ≤ x11_2
       ·rw [if_pos c30] at H
        have c30b0 : decide (0 ≤ x11_2) = true := decide_eq_true c30
        clear c30
        by_cases c31 : ((rd_T37 l4 x11_2).f2) < 0
        ·rw [if_pos c31] at H
         have c31b0 : decide (((rd_T37 l4 x11_2).f2) < 0) = true := decide_eq_true c31
         clear c31
         replace H := Option.bind_eq_some_iff.mp H
         obtain ⟨t515, A320, H⟩ := H
         replace H : (some t515) = some r := H
         have A32 := Aside0.mk A320
         clear A320
         obtain rfl := Option.some.inj H
         have p514 : 0 ≤ (x11_2 : Int) := of_decide_eq_true (by first | (with_reducible assumption) | assumption)
         have q514 : x11_2 < (l4.length : Int) := of_decide_eq_true (by first | (with_reducible assumption) | assumption)
         obtain ⟨ad514, e514, hx514_0, hx514_1, hx514_2, hx514_3⟩ := at_T37 HR4.out x11_2 p514 q514
         cases e514
         replace hx514_0 := (HB.out.cell (World.block_lt_of_cell? w _ hx514_0)).trans hx514_0
         replace hx514_1 := (HB.out.cell (World.block_lt_of_cell? w _ hx514_1)).trans hx514_1
         replace hx514_2 := (HB.out.cell (World.block_lt_of_cell? w _ hx514_2)).trans hx514_2
         replace hx514_3 := (HB.out.cell (World.block_lt_of_cell? w _ hx514_3)).trans hx514_3
         replace p514 := eq_true p514
         replace q514 := eq_true q514
         go_wp2_with (first | ((with_reducible refine gate_callee (f := 7) rfl ?_); refine gM_ 58 Try.func7 (lockgatelaw18_works.calls  t515 _ A32.out) ?_; intro w33 hb; replace BK511 := bb_ hb BK511; replace HB := bl_ hb; (try clear hb); (try clear hb2); (try clear hk); (try clear hi)))
         go_ret
         exact ⟨vv_, bz_⟩
        ·rw [if_neg c31] at H
         have c31b0 : decide (((rd_T37 l4 x11_2).f2) < 0) = false := decide_eq_false c31
         clear c31
         by_cases c34 : ((rd_T37 l4 x11_2).f2) > 64
         ·rw [if_pos c34] at H
          have c34b0 : decide (64 < ((rd_T37 l4 x11_2).f2)) = true := decide_eq_true c34
          clear c34
          replace H := Option.bind_eq_some_iff.mp H
          obtain ⟨t517, A350, H⟩ := H
          replace H : (some t517) = some r := H
          have A35 := Aside0.mk A350
          clear A350
          obtain rfl := Option.some.inj H
          have p514 : 0 ≤ (x11_2 : Int) := of_decide_eq_true (by first | (with_reducible assumption) | assumption)
          have q514 : x11_2 < (l4.length : Int) := of_decide_eq_true (by first | (with_reducible assumption) | assumption)
          obtain ⟨ad514, e514, hx514_0, hx514_1, hx514_2, hx514_3⟩ := at_T37 HR4.out x11_2 p514 q514
          cases e514
          replace hx514_0 := (HB.out.cell (World.block_lt_of_cell? w _ hx514_0)).trans hx514_0
          replace hx514_1 := (HB.out.cell (World.block_lt_of_cell? w _ hx514_1)).trans hx514_1
          replace hx514_2 := (HB.out.cell (World.block_lt_of_cell? w _ hx514_2)).trans hx514_2
          replace hx514_3 := (HB.out.cell (World.block_lt_of_cell? w _ hx514_3)).trans hx514_3
          replace p514 := eq_true p514
          replace q514 := eq_true q514
          have p516 : 0 ≤ (x11_2 : Int) := of_decide_eq_true (by first | (with_reducible assumption) | assumption)
          have q516 : x11_2 < (l4.length : Int) := of_decide_eq_true (by first | (with_reducible assumption) | assumption)
          obtain ⟨ad516, e516, hx516_0, hx516_1, hx516_2, hx516_3⟩ := at_T37 HR4.out x11_2 p516 q516
          obtain rfl : ad514 = ad516 := (by injection e516)
          replace hx516_0 := (HB.out.cell (World.block_lt_of_cell? w _ hx516_0)).trans hx516_0
          replace hx516_1 := (HB.out.cell (World.block_lt_of_cell? w _ hx516_1)).trans hx516_1
          replace hx516_2 := (HB.out.cell (World.block_lt_of_cell? w _ hx516_2)).trans hx516_2
          replace hx516_3 := (HB.out.cell (World.block_lt_of_cell? w _ hx516_3)).trans hx516_3
          replace p516 := eq_true p516
          replace q516 := eq_true q516
          go_wp2_with (first | ((with_reducible refine gate_callee (f := 7) rfl ?_); refine gM_ 58 Try.func7 (lockgatelaw18_works.calls  t517 _ A35.out) ?_; intro w36 hb; replace BK511 := bb_ hb BK511; replace HB := bl_ hb; (try clear hb); (try clear hb2); (try clear hk); (try clear hi)))
          go_ret
          exact ⟨vv_, bz_⟩
         ·rw [if_neg c34] at H
          have c34b0 : decide (64 < ((rd_T37 l4 x11_2).f2)) = false := decide_eq_false c34
          clear c34
          have H' := Aside0.mk H
          clear H
          have p514 : 0 ≤ (x11_2 : Int) := of_decide_eq_true (by first | (with_reducible assumption) | assumption)
          have q514 : x11_2 < (l4.length : Int) := of_decide_eq_true (by first | (with_reducible assumption) | assumption)
          obtain ⟨ad514, e514, hx514_0, hx514_1, hx514_2, hx514_3⟩ := at_T37 HR4.out x11_2 p514 q514
          cases e514
          replace hx514_0 := (HB.out.cell (World.block_lt_of_cell? w _ hx514_0)).trans hx514_0
          replace hx514_1 := (HB.out.cell (World.block_lt_of_cell? w _ hx514_1)).trans hx514_1
          replace hx514_2 := (HB.out.cell (World.block_lt_of_cell? w _ hx514_2)).trans hx514_2
          replace hx514_3 := (HB.out.cell (World.block_lt_of_cell? w _ hx514_3)).trans hx514_3
          replace p514 := eq_true p514
          replace q514 := eq_true q514
          have p516 : 0 ≤ (x11_2 : Int) := of_decide_eq_true (by first | (with_reducible assumption) | assumption)
          have q516 : x11_2 < (l4.length : Int) := of_decide_eq_true (by first | (with_reducible assumption) | assumption)
          obtain ⟨ad516, e516, hx516_0, hx516_1, hx516_2, hx516_3⟩ := at_T37 HR4.out x11_2 p516 q516
          obtain rfl : ad514 = ad516 := (by injection e516)
          replace hx516_0 := (HB.out.cell (World.block_lt_of_cell? w _ hx516_0)).trans hx516_0
          replace hx516_1 := (HB.out.cell (World.block_lt_of_cell? w _ hx516_1)).trans hx516_1
          replace hx516_2 := (HB.out.cell (World.block_lt_of_cell? w _ hx516_2)).trans hx516_2
          replace hx516_3 := (HB.out.cell (World.block_lt_of_cell? w _ hx516_3)).trans hx516_3
          replace p516 := eq_true p516
          replace q516 := eq_true q516
          go_wp2
          go_roundg k2
          case measure => have := HJ5.out; have := HK2.out; omega
          case rel => exact ⟨(wrap64 (x11_2 + 1)), (by first | rfl | (simp; done) | (simp [*]; done)), H', ⟨by have := HJ5.out; have := HK2.out; omega⟩, ⟨bk_⟩, ⟨bz_⟩⟩
       ·rw [if_neg c30] at H
        exact absurd H (by simp)
      ·rw [if_neg c29] at H
       have c29b0 : decide (x11_2 < (l4.length : Int)) = false := decide_eq_false c29
       clear c29
       replace H := Option.bind_eq_some_iff.mp H
       obtain ⟨t518, A370, H⟩ := H
       replace H : (if 0 ≤ (l4.length : Int) then (if (l4.length : Int) ≤ (t518.length : Int) then ((kinds_Access.f a0_0 a0_1 a0_2 a0_3 a0_4 a0_5 a0_6 a0_7 a0_8 a0_9 a0_10 a1 a2 a3 (t518.take ((l4.length : Int) : Int).toNat)).bind fun t525 => ((lockgateref18_Access.f k2 a0_0 a0_1 a0_2 a0_3 a0_4 a0_5 a0_6 a0_7 a0_8 a0_9 a0_10 a1 a2 a3 l4).bind fun t526 => (if t525 = t526 then ((lockgatekit_KeptDecls.f k2 t518 l4).bind fun t527 => (if t527 = true then ((lockgatelaw18_works.f).bind fun t528 => (some t528)) else (some false))) else (some false)))) else (none)) else (none)) = some r := H
       have A37 := Aside0.mk A370
       clear A370
       by_cases c38 : 0 ≤ (l4.length : Int)
       ·rw [if_pos c38] at H
        have c38b0 := eq_true c38
        have c38b1 : decide (0 ≤ (l4.length : Int)) = true := decide_eq_true c38
        clear c38
        by_cases c39 : (l4.length : Int) ≤ (t518.length : Int)
        ·rw [if_pos c39] at H
         have c39b0 := eq_true c39
         have c39b1 : decide ((l4.length : Int) ≤ (t518.length : Int)) = true := decide_eq_true c39
         clear c39
         obtain ⟨y521, hy521⟩ : ∃ y_ : List (S37), y_ = (t518.take ((l4.length : Int) : Int).toNat) := ⟨_, rfl⟩
         replace H : ((kinds_Access.f a0_0 a0_1 a0_2 a0_3 a0_4 a0_5 a0_6 a0_7 a0_8 a0_9 a0_10 a1 a2 a3 y521).bind fun t525 => ((lockgateref18_Access.f k2 a0_0 a0_1 a0_2 a0_3 a0_4 a0_5 a0_6 a0_7 a0_8 a0_9 a0_10 a1 a2 a3 l4).bind fun t526 => (if t525 = t526 then ((lockgatekit_KeptDecls.f k2 t518 l4).bind fun t527 => (if t527 = true then ((lockgatelaw18_works.f).bind fun t528 => (some t528)) else (some false))) else (some false)))) = some r := by first | (rw [hy521]; with_reducible exact H) | (have H2_ := (Option.bind_some _ _).symm.trans H; rw [hy521]; with_reducible exact H2_) | (have H2_ := (Option.bind_some _ _).symm.trans H; with_reducible exact H2_) | with_reducible exact H | (rw [hy521]; exact H) | exact H
         have Ny521 := Aside0.mk hy521
         clear hy521
         replace H := Option.bind_eq_some_iff.mp H
         obtain ⟨t525, A400, H⟩ := H
         replace H : ((lockgateref18_Access.f k2 a0_0 a0_1 a0_2 a0_3 a0_4 a0_5 a0_6 a0_7 a0_8 a0_9 a0_10 a1 a2 a3 l4).bind fun t526 => (if t525 = t526 then ((lockgatekit_KeptDecls.f k2 t518 l4).bind fun t527 => (if t527 = true then ((lockgatelaw18_works.f).bind fun t528 => (some t528)) else (some false))) else (some false))) = some r := H
         have A40 := Aside0.mk A400
         clear A400
         replace H := Option.bind_eq_some_iff.mp H
         obtain ⟨t526, A410, H⟩ := H
         replace H : (if t525 = t526 then ((lockgatekit_KeptDecls.f k2 t518 l4).bind fun t527 => (if t527 = true then ((lockgatelaw18_works.f).bind fun t528 => (some t528)) else (some false))) else (some false)) = some r := H
         have A41 := Aside0.mk A410
         clear A410
         by_cases c42 : t525 = t526
         ·rw [if_pos c42] at H
          have c42b0 : (t525 == t526) = true := beq_iff_eq.mpr c42
          have c42b1 : (t525 != t526) = false := bne_eq_false_iff_eq.mpr c42
          clear c42
          replace H := Option.bind_eq_some_iff.mp H
          obtain ⟨t527, A430, H⟩ := H
          replace H : (if t527 = true then ((lockgatelaw18_works.f).bind fun t528 => (some t528)) else (some false)) = some r := H
          have A43 := Aside0.mk A430
          clear A430
          by_cases c44 : t527 = true
          ·subst c44
           have H1 : ((lockgatelaw18_works.f).bind fun t528 => (some t528)) = some r := by rw [if_pos rfl] at H; exact H
           clear H
           have H := H1
           clear H1
           replace H := Option.bind_eq_some_iff.mp H
           obtain ⟨t528, A450, H⟩ := H
           replace H : (some t528) = some r := H
           have A45 := Aside0.mk A450
           clear A450
           obtain rfl := Option.some.inj H
           try go_wp2_with (first | ((with_reducible refine gate_callee (f := 8) rfl ?_); refine goesL_ (some 60) rfl rfl Try.func8 (by kernel_rfl) rfl #[.slice A4 l4.length c4] rfl mp_ ?_; (with_reducible refine (lockgatekit_LentDecls.calls k2 _ _ l4 t518 _ ?side1 ?side2 A37.out).mono ?_); (case side1 => repeat (first | exact (Kd.C_below HR4.out HB.out) | (with_reducible refine Kd.C_alloc ?_ _) | (with_reducible refine Kd.C_drewN ?_ _) | (with_reducible refine Kd.C_drew ?_))); (case side2 => exact HC4.out); rintro e w46 ⟨v519, rfl, ho0, hb⟩; refine ⟨_, rfl, ?_⟩; have HO520 := Aside0.mk (Kd.R_lower ho0 (below_size bz_)); replace BK511 := bb_ hb BK511; replace HB := bl_ hb; (try clear hb); (try clear hb2); (try clear hk); (try clear hi); (try clear ho0)))
           replace HO520 := Aside0.mk (Kd.R_drew HO520.out)
           replace BK511 := Aside0.mk (blk_drew BK511.out)
           replace HB := Aside0.mk (below_drew1 HB.out)
           obtain ⟨Ao49, co49, eo49⟩ := Kd.R_slice HO520.out
           (first | subst eo49 | (injection eo49 with f1_ f2_ f3_; have f4_ := f1_.symm; have f5_ := f3_.symm; clear f1_ f2_ f3_; subst f4_; subst f5_))
           have q48 : ((l4.length : Int) : Int) ≤ ((t518.length : Int) : Int) := of_decide_eq_true (by first | (with_reducible assumption) | assumption)
           obtain ⟨i048, hi048, _, hsz48, _⟩ := info_parts info37
           have hroom48 : t518.length ≤ co49 := (Kd.R_reads' HO520.out).2.1
           have hC48 : Kd.C k37 _ Ao49 t518.length t518 := (Kd.R_reads' HO520.out).2.2
           have hcut48 := cut_to (P := Try.prog) 33 37 .i64 Try.underlying33 hi048 Ao49 t518.length co49 (l4.length : Int) (of_decide_eq_true (by first | (with_reducible assumption) | assumption)) q48 hroom48
           have hr48 := Kd.C_take (m := ((l4.length : Int) : Int).toNat) hC48 (by omega)
           have hy48 : y521.length = ((l4.length : Int) : Int).toNat := (by rw [Ny521.out, List.length_take]; omega)
           rw [← Ny521.out] at hr48
           rw [← hy48] at hcut48
           have HR524 := Aside0.mk hr48
           have HC524 := Aside0.mk (show y521.length ≤ co49 from by omega)
           clear hr48 hC48 hroom48 hi048 hsz48
           have KY48 := Aside0.mk hy48
           clear hy48
           have KL48 := Aside0.mk (show ((l4.length : Int) : Int).toNat ≤ t518.length from by omega)
           replace q48 := eq_true q48
           refine start_ (n := 25) (S := fun w' => w'.cell? ⟨gb511, 0, none⟩ = some (.int .i64 a0_0) ∧ w'.cell? ⟨gb511, 1, none⟩ = some (.int .u64 a0_1) ∧ w'.cell? ⟨gb511, 2, none⟩ = some (.int .u64 a0_2) ∧ w'.cell? ⟨gb511, 3, none⟩ = some (.int .u64 a0_3) ∧ w'.cell? ⟨gb511, 4, none⟩ = some (.int .u64 a0_4) ∧ w'.cell? ⟨gb511, 5, none⟩ = some (.int .i64 a0_5) ∧ w'.cell? ⟨gb511, 6, none⟩ = some (.int .i64 a0_6) ∧ w'.cell? ⟨gb511, 7, none⟩ = some (.int .i64 a0_7) ∧ w'.cell? ⟨gb511, 8, none⟩ = some (.int .i64 a0_8) ∧ w'.cell? ⟨gb511, 9, none⟩ = some (.int .i64 a0_9) ∧ w'.cell? ⟨gb511, 10, none⟩ = some (.int .i64 a0_10)) (ds := []) #[n_,n_,n_,n_,n_,n_,n_,n_,n_,n_,n_,n_,n_,n_,n_,n_,n_,n_,n_,n_,n_,n_,n_,n_,n_] (by kernel_rfl) rfl rfl ⟨c0_ BK511, c1_ BK511, c2_ BK511, c3_ BK511, c4_ BK511, c5_ BK511, c6_ BK511, c7_ BK511, (blk_cell BK511.out 8).trans rfl, (blk_cell BK511.out 9).trans rfl, (blk_cell BK511.out 10).trans rfl⟩ (fun hHeld => ?_); refine with_tabW lockgatelaw18_KindsReach.tab9 lockgatelaw18_KindsReach.bits9 (fun HT_ HW_ => ?_)
           generalize w46.drew = w47 at HO520 BK511 HB HR524 hHeld ⊢
           refine pq_ 1 62 #[n_,y_,n_,n_,n_,n_,n_,n_,n_,n_,n_,n_,n_,n_,n_,n_,n_,n_,n_,n_,n_,n_,n_,n_,n_] ?_
           refine pq_ 2 63 #[n_,y_,y_,n_,n_,n_,n_,n_,n_,n_,n_,n_,n_,n_,n_,n_,n_,n_,n_,n_,n_,n_,n_,n_,n_] ?_
           refine pq_ 3 64 #[n_,y_,y_,y_,n_,n_,n_,n_,n_,n_,n_,n_,n_,n_,n_,n_,n_,n_,n_,n_,n_,n_,n_,n_,n_] ?_
           refine pq_ 4 65 #[n_,y_,y_,y_,y_,n_,n_,n_,n_,n_,n_,n_,n_,n_,n_,n_,n_,n_,n_,n_,n_,n_,n_,n_,n_] ?_
           refine pq_ 5 66 #[n_,y_,y_,y_,y_,y_,n_,n_,n_,n_,n_,n_,n_,n_,n_,n_,n_,n_,n_,n_,n_,n_,n_,n_,n_] ?_
           refine pq_ 6 67 #[n_,y_,y_,y_,y_,y_,y_,n_,n_,n_,n_,n_,n_,n_,n_,n_,n_,n_,n_,n_,n_,n_,n_,n_,n_] ?_
           refine pq_ 7 68 #[n_,y_,y_,y_,y_,y_,y_,y_,n_,n_,n_,n_,n_,n_,n_,n_,n_,n_,n_,n_,n_,n_,n_,n_,n_] ?_
           refine pq_ 10 71 #[n_,y_,y_,y_,y_,y_,y_,y_,n_,n_,y_,n_,n_,n_,n_,n_,n_,n_,n_,n_,n_,n_,n_,n_,n_] ?_
           refine pq_ 11 72 #[n_,y_,y_,y_,y_,y_,y_,y_,n_,n_,y_,y_,n_,n_,n_,n_,n_,n_,n_,n_,n_,n_,n_,n_,n_] ?_
           refine pq_ 12 73 #[n_,y_,y_,y_,y_,y_,y_,y_,n_,n_,y_,y_,y_,n_,n_,n_,n_,n_,n_,n_,n_,n_,n_,n_,n_] ?_
           refine pq_ 13 74 #[n_,y_,y_,y_,y_,y_,y_,y_,n_,n_,y_,y_,y_,y_,n_,n_,n_,n_,n_,n_,n_,n_,n_,n_,n_] ?_
           refine tq4_ 0 61 #[y_,y_,y_,y_,y_,y_,y_,y_,n_,n_,y_,y_,y_,y_,n_,n_,n_,n_,n_,n_,n_,n_,n_,n_,n_] hHeld ?_
           refine tq4_ 9 70 #[y_,y_,y_,y_,y_,y_,y_,y_,n_,y_,y_,y_,y_,y_,n_,n_,n_,n_,n_,n_,n_,n_,n_,n_,n_] hHeld ?_
           refine one_ (i := 8) (N := some 69) #[y_,y_,y_,y_,y_,y_,y_,y_,y_,y_,y_,y_,y_,y_,n_,n_,n_,n_,n_,n_,n_,n_,n_,n_,n_] rfl rfl (one_of HT_.out (by kernel_rfl)) (by decide) (fun K hK => ?_)
           refine goes_ Try.func9 (by kernel_rfl) rfl #[.agg #[.int .i64 a0_0, .int .u64 a0_1, .int .u64 a0_2, .int .u64 a0_3, .int .u64 a0_4, .int .i64 a0_5, .int .i64 a0_6, .int .i64 a0_7, .int .i64 a0_8, .int .i64 a0_9, .int .i64 a0_10], .int .i64 a1, .int .i64 a2, .bool a3, .slice Ao49 y521.length co49] (by rfl) rfl rfl mp_ ?_
           with_reducible refine (kinds_Access.calls a0_0 a0_1 a0_2 a0_3 a0_4 a0_5 a0_6 a0_7 a0_8 a0_9 a0_10 a1 a2 a3 _ _ y521 t525 _ ?side1 ?side2 A40.out).mono ?_
           (case side1 => repeat (first | exact (by repeat (first | (with_reducible exact HR524.out) | (with_reducible refine Kd.C_alloc ?_ _) | (with_reducible refine Kd.C_drewN ?_ _) | (with_reducible refine Kd.C_drew ?_) | exact HR524.out)) | (with_reducible refine Kd.C_alloc ?_ _) | (with_reducible refine Kd.C_drewN ?_ _) | (with_reducible refine Kd.C_drew ?_)))
           (case side2 => exact HC524.out)
           rintro e w50 ⟨rfl, hb⟩
           refine ⟨_, rfl, ?_⟩
           replace HO520 := Aside0.mk (Kd.R_below (by (with_reducible repeat (first | apply Kd.R_alloc | apply Kd.R_drewN | apply Kd.R_drew)); exact HO520.out) hb)
           replace BK511 := bb_ hb BK511
           replace HR524 := Aside0.mk (Kd.C_below (by repeat (first | (with_reducible exact HR524.out) | (with_reducible refine Kd.C_alloc ?_ _) | (with_reducible refine Kd.C_drewN ?_ _) | (with_reducible refine Kd.C_drew ?_) | exact HR524.out)) hb)
           replace HB := bl_ hb
           try clear hb
           refine hK.out _ _ ⟨c0_ BK511, c1_ BK511, c2_ BK511, c3_ BK511, c4_ BK511, c5_ BK511, c6_ BK511, c7_ BK511, (blk_cell BK511.out 8).trans rfl, (blk_cell BK511.out 9).trans rfl, (blk_cell BK511.out 10).trans rfl⟩ (fun hHeld => ?_)
           clear hK K
           refine norm_ (a' := ?_) ?_ ?_
           rotate_left
           ·show Act.put _ (some 69) _ = _
            simp only [Act.put, s1_, s2_, s3_, i64_w, i32_w]
            rfl
           refine one_ (i := 14) (N := some 75) #[y_,y_,y_,y_,y_,y_,y_,y_,y_,y_,y_,y_,y_,y_,y_,n_,n_,n_,n_,n_,n_,n_,n_,n_,n_] rfl rfl (one_of HT_.out (by kernel_rfl)) (by decide) (fun K hK => ?_)
           refine goes_ Try.func10 (by kernel_rfl) rfl #[.agg #[.int .i64 a0_0, .int .u64 a0_1, .int .u64 a0_2, .int .u64 a0_3, .int .u64 a0_4, .int .i64 a0_5, .int .i64 a0_6, .int .i64 a0_7, .int .i64 a0_8, .int .i64 a0_9, .int .i64 a0_10], .int .i64 a1, .int .i64 a2, .bool a3, .slice A4 l4.length c4] (by rfl) rfl rfl mp_ ?_
           with_reducible refine (lockgateref18_Access.calls k2 a0_0 a0_1 a0_2 a0_3 a0_4 a0_5 a0_6 a0_7 a0_8 a0_9 a0_10 a1 a2 a3 _ _ l4 t526 _ ?side1 ?side2 A41.out).mono ?_
           (case side1 => repeat (first | exact (Kd.C_below HR4.out HB.out) | (with_reducible refine Kd.C_alloc ?_ _) | (with_reducible refine Kd.C_drewN ?_ _) | (with_reducible refine Kd.C_drew ?_)))
           (case side2 => exact HC4.out)
           rintro e w51 ⟨rfl, hb⟩
           refine ⟨_, rfl, ?_⟩
           replace HO520 := Aside0.mk (Kd.R_below (by (with_reducible repeat (first | apply Kd.R_alloc | apply Kd.R_drewN | apply Kd.R_drew)); exact HO520.out) hb)
           replace BK511 := bb_ hb BK511
           replace HR524 := Aside0.mk (Kd.C_below (by repeat (first | (with_reducible exact HR524.out) | (with_reducible refine Kd.C_alloc ?_ _) | (with_reducible refine Kd.C_drewN ?_ _) | (with_reducible refine Kd.C_drew ?_) | exact HR524.out)) hb)
           replace HB := bl_ hb
           try clear hb
           refine hK.out _ _ ⟨c0_ BK511, c1_ BK511, c2_ BK511, c3_ BK511, c4_ BK511, c5_ BK511, c6_ BK511, c7_ BK511, (blk_cell BK511.out 8).trans rfl, (blk_cell BK511.out 9).trans rfl, (blk_cell BK511.out 10).trans rfl⟩ (fun hHeld => ?_)
           clear hK K
           refine norm_ (a' := ?_) ?_ ?_
           rotate_left
           ·show Act.put _ (some 75) _ = _
            simp only [Act.put, s1_, s2_, s3_, i64_w, i32_w]
            rfl
           refine pq_ 15 76 #[y_,y_,y_,y_,y_,y_,y_,y_,y_,y_,y_,y_,y_,y_,y_,y_,n_,n_,n_,n_,n_,n_,n_,n_,n_] ?_
           refine pq_ 16 77 #[y_,y_,y_,y_,y_,y_,y_,y_,y_,y_,y_,y_,y_,y_,y_,y_,y_,n_,n_,n_,n_,n_,n_,n_,n_] ?_
           refine pq_ 17 78 #[y_,y_,y_,y_,y_,y_,y_,y_,y_,y_,y_,y_,y_,y_,y_,y_,y_,y_,n_,n_,n_,n_,n_,n_,n_] ?_
           refine pq_ 18 79 #[y_,y_,y_,y_,y_,y_,y_,y_,y_,y_,y_,y_,y_,y_,y_,y_,y_,y_,y_,n_,n_,n_,n_,n_,n_] ?_
           refine one_ (i := 19) (N := some 80) #[y_,y_,y_,y_,y_,y_,y_,y_,y_,y_,y_,y_,y_,y_,y_,y_,y_,y_,y_,y_,n_,n_,n_,n_,n_] rfl rfl (one_of HT_.out (by kernel_rfl)) (by decide) (fun K hK => ?_)
           refine goes_ Try.func11 (by kernel_rfl) rfl #[.slice Ao49 t518.length co49, .slice A4 l4.length c4] (by rfl) rfl rfl mp_ ?_
           with_reducible refine (lockgatekit_KeptDecls.calls k2 _ _ t518 _ _ l4 true _ ?side1 ?side2 ?side3 ?side4 A43.out).mono ?_
           (case side1 => repeat (first | exact (Kd.R_reads' HO520.out).2.2 | (with_reducible refine Kd.C_alloc ?_ _) | (with_reducible refine Kd.C_drewN ?_ _) | (with_reducible refine Kd.C_drew ?_)))
           (case side2 => exact (Kd.R_reads' HO520.out).2.1)
           (case side3 => repeat (first | exact (Kd.C_below HR4.out HB.out) | (with_reducible refine Kd.C_alloc ?_ _) | (with_reducible refine Kd.C_drewN ?_ _) | (with_reducible refine Kd.C_drew ?_)))
           (case side4 => exact HC4.out)
           rintro e w52 ⟨rfl, hb⟩
           refine ⟨_, rfl, ?_⟩
           replace HO520 := Aside0.mk (Kd.R_below (by (with_reducible repeat (first | apply Kd.R_alloc | apply Kd.R_drewN | apply Kd.R_drew)); exact HO520.out) hb)
           replace BK511 := bb_ hb BK511
           replace HR524 := Aside0.mk (Kd.C_below (by repeat (first | (with_reducible exact HR524.out) | (with_reducible refine Kd.C_alloc ?_ _) | (with_reducible refine Kd.C_drewN ?_ _) | (with_reducible refine Kd.C_drew ?_) | exact HR524.out)) hb)
           replace HB := bl_ hb
           try clear hb
           refine hK.out _ _ ⟨c0_ BK511, c1_ BK511, c2_ BK511, c3_ BK511, c4_ BK511, c5_ BK511, c6_ BK511, c7_ BK511, (blk_cell BK511.out 8).trans rfl, (blk_cell BK511.out 9).trans rfl, (blk_cell BK511.out 10).trans rfl⟩ (fun hHeld => ?_)
           clear hK K
           refine norm_ (a' := ?_) ?_ ?_
           rotate_left
           ·show Act.put _ (some 80) _ = _
            simp only [Act.put, s1_, s2_, s3_, i64_w, i32_w]
            rfl
           refine pq_ 20 81 #[y_,y_,y_,y_,y_,y_,y_,y_,y_,y_,y_,y_,y_,y_,y_,y_,y_,y_,y_,y_,y_,n_,n_,n_,n_] ?_
           refine pq_ 21 82 #[y_,y_,y_,y_,y_,y_,y_,y_,y_,y_,y_,y_,y_,y_,y_,y_,y_,y_,y_,y_,y_,y_,n_,n_,n_] ?_
           refine one_ (i := 22) (N := some 83) #[y_,y_,y_,y_,y_,y_,y_,y_,y_,y_,y_,y_,y_,y_,y_,y_,y_,y_,y_,y_,y_,y_,y_,n_,n_] rfl rfl (one_of HT_.out (by kernel_rfl)) (by decide) (fun K hK => ?_)
           refine goes_ Try.func7 (by kernel_rfl) rfl #[] (by rfl) rfl rfl mp_ ?_
           with_reducible refine (lockgatelaw18_works.calls  t528 _ A45.out).mono ?_
           rintro e w53 ⟨rfl, hb⟩
           refine ⟨_, rfl, ?_⟩
           replace HO520 := Aside0.mk (Kd.R_below (by (with_reducible repeat (first | apply Kd.R_alloc | apply Kd.R_drewN | apply Kd.R_drew)); exact HO520.out) hb)
           replace BK511 := bb_ hb BK511
           replace HR524 := Aside0.mk (Kd.C_below (by repeat (first | (with_reducible exact HR524.out) | (with_reducible refine Kd.C_alloc ?_ _) | (with_reducible refine Kd.C_drewN ?_ _) | (with_reducible refine Kd.C_drew ?_) | exact HR524.out)) hb)
           replace HB := bl_ hb
           try clear hb
           refine hK.out _ _ ⟨c0_ BK511, c1_ BK511, c2_ BK511, c3_ BK511, c4_ BK511, c5_ BK511, c6_ BK511, c7_ BK511, (blk_cell BK511.out 8).trans rfl, (blk_cell BK511.out 9).trans rfl, (blk_cell BK511.out 10).trans rfl⟩ (fun hHeld => ?_)
           clear hK K
           refine norm_ (a' := ?_) ?_ ?_
           rotate_left
           ·show Act.put _ (some 83) _ = _
            simp only [Act.put, s1_, s2_, s3_, i64_w, i32_w]
            rfl
           refine pq_ 23 84 #[y_,y_,y_,y_,y_,y_,y_,y_,y_,y_,y_,y_,y_,y_,y_,y_,y_,y_,y_,y_,y_,y_,y_,y_,n_] ?_
           refine pq_ 24 10 #[y_,y_,y_,y_,y_,y_,y_,y_,y_,y_,y_,y_,y_,y_,y_,y_,y_,y_,y_,y_,y_,y_,y_,y_,y_] ?_
           refine done_ (done_of HT_.out (by kernel_rfl)) ?_
           try go_wp2
           go_ret
           exact ⟨vv_, bz_⟩
          ·replace c44 := Bool.eq_false_iff.mpr c44
           subst c44
           have H1 : (some false) = some r := by rw [if_neg (show ¬ (false = true) by decide)] at H; exact H
           clear H
           have H := H1
           clear H1
           exact absurd ((Option.some.inj H).trans HRT.out) (by decide)
         ·rw [if_neg c42] at H
          have c42b0 : (t525 == t526) = false := beq_eq_false_iff_ne.mpr c42
          have c42b1 : (t525 != t526) = true := bne_iff_ne.mpr c42
          exact absurd ((Option.some.inj H).trans HRT.out) (by decide)
        ·rw [if_neg c39] at H
         exact absurd H (by simp)
       ·rw [if_neg c38] at H
        exact absurd H (by simp)

end Go.Proofs.Ytaplgollkkpnaaa.PA
