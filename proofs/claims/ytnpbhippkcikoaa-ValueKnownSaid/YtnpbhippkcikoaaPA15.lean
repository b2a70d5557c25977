-- PRINTED by print.py (a twelfth state) out of the translation. Not trusted: Lean checks it.
import Derived.Test.YtnpbhippkcikoaaPA0
import Derived.Test.YtnpbhippkcikoaaSq
import Derived.Test.YtnpbhippkcikoaaPA11
import Derived.Test.YtnpbhippkcikoaaPA14
namespace Go.Proofs.Ytnpbhippkcikoaa.PA
open Go.RowKit Go.Proofs.YtnpbhippkcikoaaW.PrintWords Go.Proofs.YtnpbhippkcikoaaW.PrintLast Go.Proofs.YtnpbhippkcikoaaW.PrintMore
attribute [local go_sem] max2_int min2_int max_two min_two max_three min_three max_four min_four   -- for this text's walks alone
set_option linter.unusedVariables false
set_option linter.unusedSimpArgs false

/-! ### lockgateref14_Alu: function 12 -/
mutual
def lockgateref14_Alu.j0 : Nat → Int → Bool → Bool → Int → Int → Int → Int → Int → Int → Option (Int × Int × Int × Int)
 | 0, _, _, _, _, _, _, _, _, _ => none
 | k + 1, x0, x1, x19, x188000, x188001, x188002, x189000, x189001, x189002 => if x19 = true then (some (0, 0, 0, 4)) else (if x0 = 11 then (if x0 = 8 then (lockgateref14_Alu.j1 k x0 x1 (x0 != 11) (x0 != 8) false x188000 x188001 x188002 x189000 x189001 x189002) else (lockgateref14_Alu.j1 k x0 x1 (x0 != 11) (x0 != 8) (x189000 == 0) x188000 x188001 x188002 x189000 x189001 x189002)) else (if x188000 = 0 then (lockgateref14_Alu.j1 k x0 x1 (x0 != 11) (x0 != 8) true x188000 x188001 x188002 x189000 x189001 x189002) else (if x0 = 8 then (lockgateref14_Alu.j1 k x0 x1 (x0 != 11) (x0 != 8) false x188000 x188001 x188002 x189000 x189001 x189002) else (lockgateref14_Alu.j1 k x0 x1 (x0 != 11) (x0 != 8) (x189000 == 0) x188000 x188001 x188002 x189000 x189001 x189002))))
def lockgateref14_Alu.j1 : Nat → Int → Bool → Bool → Bool → Bool → Int → Int → Int → Int → Int → Int → Option (Int × Int × Int × Int)
 | 0, _, _, _, _, _, _, _, _, _, _, _ => none
 | k + 1, x0, x1, x10, x11, x38, x188000, x188001, x188002, x189000, x189001, x189002 => if x38 = true then (some (0, 0, 0, 20)) else (if x10 = true then (if x188000 = 1 then (if x11 = true then (lockgateref14_Alu.j2 k x0 x1 (x189000 == 1) x188000 x188001 x188002 x189000 x189001 x189002) else (lockgateref14_Alu.j2 k x0 x1 true x188000 x188001 x188002 x189000 x189001 x189002)) else (lockgateref14_Alu.j2 k x0 x1 false x188000 x188001 x188002 x189000 x189001 x189002)) else (if x11 = true then (lockgateref14_Alu.j2 k x0 x1 (x189000 == 1) x188000 x188001 x188002 x189000 x189001 x189002) else (lockgateref14_Alu.j2 k x0 x1 true x188000 x188001 x188002 x189000 x189001 x189002)))
def lockgateref14_Alu.j2 : Nat → Int → Bool → Bool → Int → Int → Int → Int → Int → Int → Option (Int × Int × Int × Int)
 | 0, _, _, _, _, _, _, _, _, _ => none
 | k + 1, x0, x1, x55, x188000, x188001, x188002, x189000, x189001, x189002 => if x55 = true then ((lockgateref01_Alu.f k x0 x1 x188001 x189001).bind fun bt190 => ((lockgateref14_Num.f bt190.1).bind fun bt192 => (some (bt192.1, bt192.2.1, bt192.2.2, 0)))) else (if x1 = true then (if x0 = 11 then (some (x189000, x189001, x189002, 0)) else (if x0 = 0 then ((lockgateref14_Places.f x188000 x188001 x188002).bind fun t195 => (if t195 = true then (lockgateref14_Alu.j3 k x0 (x189000 == 1) x188000 x188001 x188002 x189000 x189001 x189002) else (lockgateref14_Alu.j3 k x0 false x188000 x188001 x188002 x189000 x189001 x189002))) else (lockgateref14_Alu.j3 k x0 false x188000 x188001 x188002 x189000 x189001 x189002))) else (some (0, 0, 0, 21)))
def lockgateref14_Alu.j3 : Nat → Int → Bool → Int → Int → Int → Int → Int → Int → Option (Int × Int × Int × Int)
 | 0, _, _, _, _, _, _, _, _ => none
 | k + 1, x0, x84, x188000, x188001, x188002, x189000, x189001, x189002 => if x84 = true then (some (x188000, IntKind.u64.wrap (x188001 + x189001), x188002, 0)) else (if x0 = 0 then (if x188000 = 1 then ((lockgateref14_Places.f x189000 x189001 x189002).bind fun t196 => (lockgateref14_Alu.j4 k x0 t196 x188000 x188001 x188002 x189000 x189001 x189002)) else (lockgateref14_Alu.j4 k x0 false x188000 x188001 x188002 x189000 x189001 x189002)) else (lockgateref14_Alu.j4 k x0 false x188000 x188001 x188002 x189000 x189001 x189002))
def lockgateref14_Alu.j4 : Nat → Int → Bool → Int → Int → Int → Int → Int → Int → Option (Int × Int × Int × Int)
 | 0, _, _, _, _, _, _, _, _ => none
 | k + 1, x0, x102, x188000, x188001, x188002, x189000, x189001, x189002 => if x102 = true then (some (x189000, IntKind.u64.wrap (x189001 + x188001), x189002, 0)) else (if x0 = 1 then ((lockgateref14_Places.f x188000 x188001 x188002).bind fun t197 => (if t197 = true then (if x189000 = 1 then (some (x188000, IntKind.u64.wrap (x188001 - x189001), x188002, 0)) else (some (0, 0, 0, 21))) else (some (0, 0, 0, 21)))) else (some (0, 0, 0, 21)))
end
def lockgateref14_Alu.f (k : Nat) (a0 : Int) (a1 : Bool) (a2_0 : Int) (a2_1 : Int) (a2_2 : Int) (a3_0 : Int) (a3_1 : Int) (a3_2 : Int) : Option (Int × Int × Int × Int) := if a0 < 0 then (lockgateref14_Alu.j0 k a0 a1 true a2_0 a2_1 a2_2 a3_0 a3_1 a3_2) else (lockgateref14_Alu.j0 k a0 a1 (decide (a0 > 12)) a2_0 a2_1 a2_2 a3_0 a3_1 a3_2)
theorem lockgateref14_Alu.mono_l : ∀ k, (∀ y0 y1 y2 y3 y4 y5 y6 y7 y8, LeO (lockgateref14_Alu.j0 k y0 y1 y2 y3 y4 y5 y6 y7 y8) (lockgateref14_Alu.j0 (k + 1) y0 y1 y2 y3 y4 y5 y6 y7 y8)) ∧ (∀ y0 y1 y2 y3 y4 y5 y6 y7 y8 y9 y10, LeO (lockgateref14_Alu.j1 k y0 y1 y2 y3 y4 y5 y6 y7 y8 y9 y10) (lockgateref14_Alu.j1 (k + 1) y0 y1 y2 y3 y4 y5 y6 y7 y8 y9 y10)) ∧ (∀ y0 y1 y2 y3 y4 y5 y6 y7 y8, LeO (lockgateref14_Alu.j2 k y0 y1 y2 y3 y4 y5 y6 y7 y8) (lockgateref14_Alu.j2 (k + 1) y0 y1 y2 y3 y4 y5 y6 y7 y8)) ∧ (∀ y0 y1 y2 y3 y4 y5 y6 y7, LeO (lockgateref14_Alu.j3 k y0 y1 y2 y3 y4 y5 y6 y7) (lockgateref14_Alu.j3 (k + 1) y0 y1 y2 y3 y4 y5 y6 y7)) ∧ (∀ y0 y1 y2 y3 y4 y5 y6 y7, LeO (lockgateref14_Alu.j4 k y0 y1 y2 y3 y4 y5 y6 y7) (lockgateref14_Alu.j4 (k + 1) y0 y1 y2 y3 y4 y5 y6 y7))
 | 0 => ⟨fun _ _ _ _ _ _ _ _ _ r h => by simp [lockgateref14_Alu.j0] at h, fun _ _ _ _ _ _ _ _ _ _ _ r h => by simp [lockgateref14_Alu.j1] at h, fun _ _ _ _ _ _ _ _ _ r h => by simp [lockgateref14_Alu.j2] at h, fun _ _ _ _ _ _ _ _ r h => by simp [lockgateref14_Alu.j3] at h, fun _ _ _ _ _ _ _ _ r h => by simp [lockgateref14_Alu.j4] at h⟩
 | k + 1 => by
  obtain ⟨ih0, ih1, ih2, ih3, ih4⟩ := lockgateref14_Alu.mono_l k
  refine ⟨?_, ?_, ?_, ?_, ?_⟩
  ·intro y0 y1 y2 y3 y4 y5 y6 y7 y8
   unfold lockgateref14_Alu.j0
   repeat' first
   | (with_reducible exact ih0 _ _ _ _ _ _ _ _ _)
   | (with_reducible exact ih1 _ _ _ _ _ _ _ _ _ _ _)
   | (with_reducible exact ih2 _ _ _ _ _ _ _ _ _)
   | (with_reducible exact ih3 _ _ _ _ _ _ _ _)
   | (with_reducible exact ih4 _ _ _ _ _ _ _ _)
   | (with_reducible exact lockgateref01_Alu.mono _ _ _ _ _)
   | (with_reducible exact LeO.refl _)
   | (with_reducible exact LeO.none _)
   | (with_reducible refine LeO.ite ?_ ?_)
   | (with_reducible refine LeO.bind ?_ (fun _ => ?_))
   | exact ih0 _ _ _ _ _ _ _ _ _
   | exact ih1 _ _ _ _ _ _ _ _ _ _ _
   | exact ih2 _ _ _ _ _ _ _ _ _
   | exact ih3 _ _ _ _ _ _ _ _
   | exact ih4 _ _ _ _ _ _ _ _
   | exact lockgateref01_Alu.mono _ _ _ _ _
   | exact LeO.none _
   | refine LeO.ite ?_ ?_
   | refine LeO.bind ?_ (fun _ => ?_)
  ·intro y0 y1 y2 y3 y4 y5 y6 y7 y8 y9 y10
   unfold lockgateref14_Alu.j1
   repeat' first
   | (with_reducible exact ih0 _ _ _ _ _ _ _ _ _)
   | (with_reducible exact ih1 _ _ _ _ _ _ _ _ _ _ _)
   | (with_reducible exact ih2 _ _ _ _ _ _ _ _ _)
   | (with_reducible exact ih3 _ _ _ _ _ _ _ _)
   | (with_reducible exact ih4 _ _ _ _ _ _ _ _)
   | (with_reducible exact lockgateref01_Alu.mono _ _ _ _ _)
   | (with_reducible exact LeO.refl _)
   | (with_reducible exact LeO.none _)
   | (with_reducible refine LeO.ite ?_ ?_)
   | (with_reducible refine LeO.bind ?_ (fun _ => ?_))
   | exact ih0 _ _ _ _ _ _ _ _ _
   | exact ih1 _ _ _ _ _ _ _ _ _ _ _
   | exact ih2 _ _ _ _ _ _ _ _ _
   | exact ih3 _ _ _ _ _ _ _ _
   | exact ih4 _ _ _ _ _ _ _ _
   | exact lockgateref01_Alu.mono _ _ _ _ _
   | exact LeO.none _
   | refine LeO.ite ?_ ?_
   | refine LeO.bind ?_ (fun _ => ?_)
  ·intro y0 y1 y2 y3 y4 y5 y6 y7 y8
   unfold lockgateref14_Alu.j2
   repeat' first
   | (with_reducible exact ih0 _ _ _ _ _ _ _ _ _)
   | (with_reducible exact ih1 _ _ _ _ _ _ _ _ _ _ _)
   | (with_reducible exact ih2 _ _ _ _ _ _ _ _ _)
   | (with_reducible exact ih3 _ _ _ _ _ _ _ _)
   | (with_reducible exact ih4 _ _ _ _ _ _ _ _)
   | (with_reducible exact lockgateref01_Alu.mono _ _ _ _ _)
   | (with_reducible exact LeO.refl _)
   | (with_reducible exact LeO.none _)
   | (with_reducible refine LeO.ite ?_ ?_)
   | (with_reducible refine LeO.bind ?_ (fun _ => ?_))
   | exact ih0 _ _ _ _ _ _ _ _ _
   | exact ih1 _ _ _ _ _ _ _ _ _ _ _
   | exact ih2 _ _ _ _ _ _ _ _ _
   | exact ih3 _ _ _ _ _ _ _ _
   | exact ih4 _ _ _ _ _ _ _ _
   | exact lockgateref01_Alu.mono _ _ _ _ _
   | exact LeO.none _
   | refine LeO.ite ?_ ?_
   | refine LeO.bind ?_ (fun _ => ?_)
  ·intro y0 y1 y2 y3 y4 y5 y6 y7
   unfold lockgateref14_Alu.j3
   repeat' first
   | (with_reducible exact ih0 _ _ _ _ _ _ _ _ _)
   | (with_reducible exact ih1 _ _ _ _ _ _ _ _ _ _ _)
   | (with_reducible exact ih2 _ _ _ _ _ _ _ _ _)
   | (with_reducible exact ih3 _ _ _ _ _ _ _ _)
   | (with_reducible exact ih4 _ _ _ _ _ _ _ _)
   | (with_reducible exact lockgateref01_Alu.mono _ _ _ _ _)
   | (with_reducible exact LeO.refl _)
   | (with_reducible exact LeO.none _)
   | (with_reducible refine LeO.ite ?_ ?_)
   | (with_reducible refine LeO.bind ?_ (fun _ => ?_))
   | exact ih0 _ _ _ _ _ _ _ _ _
   | exact ih1 _ _ _ _ _ _ _ _ _ _ _
   | exact ih2 _ _ _ _ _ _ _ _ _
   | exact ih3 _ _ _ _ _ _ _ _
   | exact ih4 _ _ _ _ _ _ _ _
   | exact lockgateref01_Alu.mono _ _ _ _ _
   | exact LeO.none _
   | refine LeO.ite ?_ ?_
   | refine LeO.bind ?_ (fun _ => ?_)
  ·intro y0 y1 y2 y3 y4 y5 y6 y7
   unfold lockgateref14_Alu.j4
   repeat' first
   | (with_reducible exact ih0 _ _ _ _ _ _ _ _ _)
   | (with_reducible exact ih1 _ _ _ _ _ _ _ _ _ _ _)
   | (with_reducible exact ih2 _ _ _ _ _ _ _ _ _)
   | (with_reducible exact ih3 _ _ _ _ _ _ _ _)
   | (with_reducible exact ih4 _ _ _ _ _ _ _ _)
   | (with_reducible exact lockgateref01_Alu.mono _ _ _ _ _)
   | (with_reducible exact LeO.refl _)
   | (with_reducible exact LeO.none _)
   | (with_reducible refine LeO.ite ?_ ?_)
   | (with_reducible refine LeO.bind ?_ (fun _ => ?_))
   | exact ih0 _ _ _ _ _ _ _ _ _
   | exact ih1 _ _ _ _ _ _ _ _ _ _ _
   | exact ih2 _ _ _ _ _ _ _ _ _
   | exact ih3 _ _ _ _ _ _ _ _
   | exact ih4 _ _ _ _ _ _ _ _
   | exact lockgateref01_Alu.mono _ _ _ _ _
   | exact LeO.none _
   | refine LeO.ite ?_ ?_
   | refine LeO.bind ?_ (fun _ => ?_)
theorem lockgateref14_Alu.mono : ∀ a0 a1 a2 a3 a4 a5 a6 a7 k, LeO (lockgateref14_Alu.f k a0 a1 a2 a3 a4 a5 a6 a7) (lockgateref14_Alu.f (k + 1) a0 a1 a2 a3 a4 a5 a6 a7) := by
 intro a0 a1 a2 a3 a4 a5 a6 a7 k
 obtain ⟨ih0, ih1, ih2, ih3, ih4⟩ := lockgateref14_Alu.mono_l k
 unfold lockgateref14_Alu.f
 repeat' first
  | (with_reducible exact ih0 _ _ _ _ _ _ _ _ _)
  | (with_reducible exact ih1 _ _ _ _ _ _ _ _ _ _ _)
  | (with_reducible exact ih2 _ _ _ _ _ _ _ _ _)
  | (with_reducible exact ih3 _ _ _ _ _ _ _ _)
  | (with_reducible exact ih4 _ _ _ _ _ _ _ _)
  | (with_reducible exact lockgateref01_Alu.mono _ _ _ _ _)
  | (with_reducible exact LeO.refl _)
  | (with_reducible exact LeO.none _)
  | (with_reducible refine LeO.ite ?_ ?_)
  | (with_reducible refine LeO.bind ?_ (fun _ => ?_))
  | exact ih0 _ _ _ _ _ _ _ _ _
  | exact ih1 _ _ _ _ _ _ _ _ _ _ _
  | exact ih2 _ _ _ _ _ _ _ _ _
  | exact ih3 _ _ _ _ _ _ _ _
  | exact ih4 _ _ _ _ _ _ _ _
  | exact lockgateref01_Alu.mono _ _ _ _ _
  | exact LeO.none _
  | refine LeO.ite ?_ ?_
  | refine LeO.bind ?_ (fun _ => ?_)
set_option maxHeartbeats 8000000 in
set_option maxRecDepth 100000 in
theorem lockgateref14_Alu.calls (k : Nat) (a0 : Int) (a1 : Bool) (a2_0 : Int) (a2_1 : Int) (a2_2 : Int) (a3_0 : Int) (a3_1 : Int) (a3_2 : Int) (r1 : Int) (r2 : Int) (r3 : Int) (r4 : Int) (w : World) (h : lockgateref14_Alu.f k a0 a1 a2_0 a2_1 a2_2 a3_0 a3_1 a3_2 = some (r1, r2, r3, r4)) :
 Calls Try.prog 12 #[.int .i64 a0, .bool a1, .agg #[.int .i64 a2_0, .int .u64 a2_1, .int .i64 a2_2], .agg #[.int .i64 a3_0, .int .u64 a3_1, .int .i64 a3_2]] w fun e w' => e = .returned (.tuple #[.agg #[.int .i64 r1, .int .u64 r2, .int .i64 r3], .int .i64 r4]) ∧ Below w.heap.size w w' := by
 have hu24 := Try.underlying24
 have HB := Aside0.mk (Below.refl w.heap.size w)
 have H : (if a0 < 0 then (lockgateref14_Alu.j0 k a0 a1 true a2_0 a2_1 a2_2 a3_0 a3_1 a3_2) else (lockgateref14_Alu.j0 k a0 a1 (decide (a0 > 12)) a2_0 a2_1 a2_2 a3_0 a3_1 a3_2)) = some (r1, r2, r3, r4) := h
 clear h
 have HC5 := Aside0.mk H
 clear H
 go_enter Try.func12, Try.ntmps12
 go_upto_region 1 with (first | ((with_reducible refine gate_dst (N := 6) rfl ?_); refine bx_ 6 #[.int .i64 a2_0, .int .u64 a2_1, .int .i64 a2_2] 24 ?_; intro gb187 hg w6 BK187 hb; have GW187 := bg_ hg; have GE187 := GW187; replace HB := bl_ hb; clear hb hg) | ((with_reducible refine gate_dst (N := 7) rfl ?_); refine bx_ 7 #[.int .i64 a3_0, .int .u64 a3_1, .int .i64 a3_2] 24 ?_; intro gb188 hg w7 BK188 hb; have GW188 := bg_ hg; have GE188 := GW188; have NB187_188 := bm_ hg BK187; have NB188_187 := bn_ hg BK187; replace BK187 := bb_ hb BK187; replace HB := bl_ hb; clear hb hg) | ((with_reducible refine gate_dst (N := 8) rfl ?_); refine bx_ 8 #[.int .i64 0, .int .u64 0, .int .i64 0] 24 ?_; intro gb189 hg w8 BK189 hb; have GW189 := bg_ hg; have GE189 := GW189; have NB187_189 := bm_ hg BK187; have NB189_187 := bn_ hg BK187; have NB188_189 := bm_ hg BK188; have NB189_188 := bn_ hg BK188; replace BK187 := bb_ hb BK187; replace BK188 := bb_ hb BK188; replace HB := bl_ hb; clear hb hg))
 (try simp only [Act.put, s1_, s2_, s3_])
 go_cut [19] (fun v19 wc => ∃ (kq : Nat) (x19_4 : Bool), v19 = .bool x19_4 ∧ Aside0 (lockgateref14_Alu.j0 kq a0 a1 x19_4 a2_0 a2_1 a2_2 a3_0 a3_1 a3_2 = some (r1, r2, r3, r4)) ∧ Aside0 (kq ≤ k) ∧ Aside0 (wc.heap[gb187]? = some (.cells #[.int .i64 a2_0, .int .u64 a2_1, .int .i64 a2_2] 24 (0, 0))) ∧ Aside0 (wc.heap[gb188]? = some (.cells #[.int .i64 a3_0, .int .u64 a3_1, .int .i64 a3_2] 24 (0, 0))) ∧ Aside0 (wc.heap[gb189]? = some (.cells #[.int .i64 0, .int .u64 0, .int .i64 0] 24 (0, 0))) ∧ Aside0 (Below w.heap.size w wc))
 case first =>
  have H := HC5.out
  clear HC5
  by_cases c9 : a0 < 0
  ·rw [if_pos c9] at H
   have c9b0 : decide (a0 < 0) = true := decide_eq_true c9
   clear c9
   (first | rw [c9b0] | (simp only [i64_w, i32_w]; rw [c9b0]) | skip)
   have H' := Aside0.mk H
   clear H
   go_wp2
   (first | go_meet | (refine Met.intro ?_; go_step; (simp only [c9b0] at H' ⊢); (repeat apply Exists.intro); refine ⟨?rel, rfl⟩))
   case rel => exact ⟨_, (true), (by first | rfl | (simp; done) | (simp [*]; done)), H', ⟨by first | omega | exact Nat.le_refl _⟩, ⟨bk_⟩, ⟨bk_⟩, ⟨bk_⟩, ⟨bz_⟩⟩
  ·rw [if_neg c9] at H
   have c9b0 : decide (a0 < 0) = false := decide_eq_false c9
   clear c9
   (first | rw [c9b0] | (simp only [i64_w, i32_w]; rw [c9b0]) | skip)
   have H' := Aside0.mk H
   clear H
   go_wp2
   (first | go_meet | (refine Met.intro ?_; go_step; (simp only [c9b0] at H' ⊢); (repeat apply Exists.intro); refine ⟨?rel, rfl⟩))
   case rel => exact ⟨_, (decide (a0 > 12)), (by first | rfl | (simp; done) | (simp [*]; done)), H', ⟨by first | omega | exact Nat.le_refl _⟩, ⟨bk_⟩, ⟨bk_⟩, ⟨bk_⟩, ⟨bz_⟩⟩
 case rest =>
  clear HC5
  try clear c1
  try clear p2
  try clear c9
  try clear c9b0
  obtain ⟨kq, x19_4, rfl, HA, HJ4, BK187, BK188, BK189, HB⟩ := hcut
  cases kq with
  | zero => exact absurd HA.out (by simp [lockgateref14_Alu.j0])
  | succ kj4 =>
   have H := HA.out
   clear HA
   simp only [lockgateref14_Alu.j0] at H
   by_cases c10 : x19_4 = true
   ·subst c10
    have H1 : (some (0, 0, 0, 4)) = some (r1, r2, r3, r4) := by rw [if_pos rfl] at H; exact H
    clear H
    have H := H1
    clear H1
    simp only [Option.some.injEq, Prod.mk.injEq] at H
    obtain ⟨rfl, rfl, rfl, rfl⟩ := H
    have hnb11 := NB189_187.out
    have hnc11 := NB187_189.out
    have hnb12 := NB189_188.out
    have hnc12 := NB188_189.out
    obtain ⟨zc13_0, zc13_1, zc13_2, zf13_0, zf13_1, zf13_2⟩ := k3_ BK189
    go_wp2
    refine bodyPost_ret (results_ct rfl _ _ gb189 24 #[.int .i64 0, .int .u64 0, .int .i64 0] (0, 0) _ rfl (by (with_reducible repeat (first | apply bN_ | apply bD_ | apply bA_)); refine blk_put (cs := #[.int .i64 0, .int .u64 0, .int .i64 0]) ?_ 2 _ rfl; (with_reducible repeat (first | apply bN_ | apply bD_ | apply bA_)); refine blk_put (cs := #[.int .i64 0, .int .u64 0, .int .i64 0]) ?_ 1 _ rfl; (with_reducible repeat (first | apply bN_ | apply bD_ | apply bA_)); refine blk_put (cs := #[.int .i64 0, .int .u64 0, .int .i64 0]) ?_ 0 _ rfl; exact bk_) Try.underlying24 rfl (by kernel_rfl)) rfl ?_
    exact ⟨vv_, bz_⟩
   ·replace c10 := Bool.eq_false_iff.mpr c10
    subst c10
    have H1 : (if a0 = 11 then (if a0 = 8 then (lockgateref14_Alu.j1 kj4 a0 a1 (a0 != 11) (a0 != 8) false a2_0 a2_1 a2_2 a3_0 a3_1 a3_2) else (lockgateref14_Alu.j1 kj4 a0 a1 (a0 != 11) (a0 != 8) (a3_0 == 0) a2_0 a2_1 a2_2 a3_0 a3_1 a3_2)) else (if a2_0 = 0 then (lockgateref14_Alu.j1 kj4 a0 a1 (a0 != 11) (a0 != 8) true a2_0 a2_1 a2_2 a3_0 a3_1 a3_2) else (if a0 = 8 then (lockgateref14_Alu.j1 kj4 a0 a1 (a0 != 11) (a0 != 8) false a2_0 a2_1 a2_2 a3_0 a3_1 a3_2) else (lockgateref14_Alu.j1 kj4 a0 a1 (a0 != 11) (a0 != 8) (a3_0 == 0) a2_0 a2_1 a2_2 a3_0 a3_1 a3_2)))) = some (r1, r2, r3, r4) := by rw [if_neg (show ¬ (false = true) by decide)] at H; exact H
    clear H
    have H := H1
    clear H1
    have HC14 := Aside0.mk H
    clear H
    go_upto_region 5 with (fail)
    go_cut [38] (fun v38 wc => ∃ (kq : Nat) (x38_13 : Bool), v38 = .bool x38_13 ∧ Aside0 (lockgateref14_Alu.j1 kq a0 a1 (a0 != 11) (a0 != 8) x38_13 a2_0 a2_1 a2_2 a3_0 a3_1 a3_2 = some (r1, r2, r3, r4)) ∧ Aside0 (kq ≤ kj4) ∧ Aside0 (wc.heap[gb187]? = some (.cells #[.int .i64 a2_0, .int .u64 a2_1, .int .i64 a2_2] 24 (0, 0))) ∧ Aside0 (wc.heap[gb188]? = some (.cells #[.int .i64 a3_0, .int .u64 a3_1, .int .i64 a3_2] 24 (0, 0))) ∧ Aside0 (wc.heap[gb189]? = some (.cells #[.int .i64 0, .int .u64 0, .int .i64 0] 24 (0, 0))) ∧ Aside0 (Below w.heap.size w wc))
    case first =>
     have H := HC14.out
     clear HC14
     by_cases c15 : a0 = 11
     ·rw [if_pos c15] at H
      have c15b0 : (a0 == 11) = true := beq_iff_eq.mpr c15
      have c15b1 : (a0 != 11) = false := bne_eq_false_iff_eq.mpr c15
      clear c15
      (first | rw [c15b0] | (simp only [i64_w, i32_w]; rw [c15b0]) | skip)
      by_cases c16 : a0 = 8
      ·rw [if_pos c16] at H
       exact absurd (c16.symm.trans (eq_of_beq c15b0)) (by decide)
      ·rw [if_neg c16] at H
       have c16b0 : (a0 == 8) = false := beq_eq_false_iff_ne.mpr c16
       have c16b1 : (a0 != 8) = true := bne_iff_ne.mpr c16
       have H' := Aside0.mk H
       clear H
       have hnb17 := NB188_187.out
       have hnc17 := NB187_188.out
       have hnb18 := NB188_189.out
       have hnc18 := NB189_188.out
       obtain ⟨zc19_0, zc19_1, zc19_2, zf19_0, zf19_1, zf19_2⟩ := k3_ BK188
       go_wp2
       (first | go_meet | (refine Met.intro ?_; go_step; (simp only [c16b1, c16b0, c15b1, c15b0] at H' ⊢); (repeat apply Exists.intro); refine ⟨?rel, rfl⟩))
       case rel => exact ⟨_, ((a3_0 == 0)), (by first | rfl | (simp; done) | (simp [*]; done)), H', ⟨by have := HJ4.out; first | omega | exact Nat.le_refl _⟩, ⟨bk_⟩, ⟨bk_⟩, ⟨bk_⟩, ⟨bz_⟩⟩
     ·rw [if_neg c15] at H
      have c15b0 : (a0 == 11) = false := beq_eq_false_iff_ne.mpr c15
      have c15b1 : (a0 != 11) = true := bne_iff_ne.mpr c15
      (first | rw [c15b0] | (simp only [i64_w, i32_w]; rw [c15b0]) | skip)
      by_cases c20 : a2_0 = 0
      ·rw [if_pos c20] at H
       have c20b0 : (a2_0 == 0) = true := beq_iff_eq.mpr c20
       have c20b1 : (a2_0 != 0) = false := bne_eq_false_iff_eq.mpr c20
       clear c20
       have H' := Aside0.mk H
       clear H
       have hnb21 := NB187_188.out
       have hnc21 := NB188_187.out
       have hnb22 := NB187_189.out
       have hnc22 := NB189_187.out
       obtain ⟨zc23_0, zc23_1, zc23_2, zf23_0, zf23_1, zf23_2⟩ := k3_ BK187
       go_wp2
       (first | go_meet | (refine Met.intro ?_; go_step; (simp only [c20b1, c20b0, c15b1, c15b0] at H' ⊢); (repeat apply Exists.intro); refine ⟨?rel, rfl⟩))
       case rel => exact ⟨_, (true), (by first | rfl | (simp; done) | (simp [*]; done)), H', ⟨by have := HJ4.out; first | omega | exact Nat.le_refl _⟩, ⟨bk_⟩, ⟨bk_⟩, ⟨bk_⟩, ⟨bz_⟩⟩
      ·rw [if_neg c20] at H
       have c20b0 : (a2_0 == 0) = false := beq_eq_false_iff_ne.mpr c20
       have c20b1 : (a2_0 != 0) = true := bne_iff_ne.mpr c20
       by_cases c24 : a0 = 8
       ·rw [if_pos c24] at H
        have c24b0 : (a0 == 8) = true := beq_iff_eq.mpr c24
        have c24b1 : (a0 != 8) = false := bne_eq_false_iff_eq.mpr c24
        clear c24
        have H' := Aside0.mk H
        clear H
        have hnb25 := NB187_188.out
        have hnc25 := NB188_187.out
        have hnb26 := NB187_189.out
        have hnc26 := NB189_187.out
        obtain ⟨zc27_0, zc27_1, zc27_2, zf27_0, zf27_1, zf27_2⟩ := k3_ BK187
        go_wp2
        (first | go_meet | (refine Met.intro ?_; go_step; (simp only [c24b1, c24b0, c20b1, c20b0, c15b1, c15b0] at H' ⊢); (repeat apply Exists.intro); refine ⟨?rel, rfl⟩))
        case rel => exact ⟨_, (false), (by first | rfl | (simp; done) | (simp [*]; done)), H', ⟨by have := HJ4.out; first | omega | exact Nat.le_refl _⟩, ⟨bk_⟩, ⟨bk_⟩, ⟨bk_⟩, ⟨bz_⟩⟩
       ·rw [if_neg c24] at H
        have c24b0 : (a0 == 8) = false := beq_eq_false_iff_ne.mpr c24
        have c24b1 : (a0 != 8) = true := bne_iff_ne.mpr c24
        have H' := Aside0.mk H
        clear H
        have hnb28 := NB187_188.out
        have hnc28 := NB188_187.out
        have hnb29 := NB187_189.out
        have hnc29 := NB189_187.out
        obtain ⟨zc30_0, zc30_1, zc30_2, zf30_0, zf30_1, zf30_2⟩ := k3_ BK187
        have hnb31 := NB188_189.out
        have hnc31 := NB189_188.out
        obtain ⟨zc32_0, zc32_1, zc32_2, zf32_0, zf32_1, zf32_2⟩ := k3_ BK188
        go_wp2
        (first | go_meet | (refine Met.intro ?_; go_step; (simp only [c24b1, c24b0, c20b1, c20b0, c15b1, c15b0] at H' ⊢); (repeat apply Exists.intro); refine ⟨?rel, rfl⟩))
        case rel => exact ⟨_, ((a3_0 == 0)), (by first | rfl | (simp; done) | (simp [*]; done)), H', ⟨by have := HJ4.out; first | omega | exact Nat.le_refl _⟩, ⟨bk_⟩, ⟨bk_⟩, ⟨bk_⟩, ⟨bz_⟩⟩
    case rest =>
     clear HC14
     try clear c1
     try clear c2
     try clear p2
     try clear c3
     try clear c9
     try clear c9b0
     try clear c10
     try clear c11
     try clear c12
     try clear c15
     try clear c15b0
     try clear c15b1
     try clear c16
     try clear c16b0
     try clear c16b1
     try clear c17
     try clear c18
     try clear c20
     try clear c20b0
     try clear c20b1
     try clear c21
     try clear c22
     try clear c24
     try clear c24b0
     try clear c24b1
     try clear c25
     try clear c26
     try clear c28
     try clear c29
     try clear c31
     try clear zc13_0
     try clear zc13_1
     try clear zc13_2
     try clear zc19_0
     try clear zc19_1
     try clear zc19_2
     try clear zc23_0
     try clear zc23_1
     try clear zc23_2
     try clear zc27_0
     try clear zc27_1
     try clear zc27_2
     try clear zc30_0
     try clear zc30_1
     try clear zc30_2
     try clear zc32_0
     try clear zc32_1
     try clear zc32_2
     try clear zf13_0
     try clear zf13_1
     try clear zf13_2
     try clear zf19_0
     try clear zf19_1
     try clear zf19_2
     try clear zf23_0
     try clear zf23_1
     try clear zf23_2
     try clear zf27_0
     try clear zf27_1
     try clear zf27_2
     try clear zf30_0
     try clear zf30_1
     try clear zf30_2
     try clear zf32_0
     try clear zf32_1
     try clear zf32_2
     try clear p2
     obtain ⟨kq, x38_13, rfl, HA, HJ13, BK187, BK188, BK189, HB⟩ := hcut
     cases kq with
     | zero => exact absurd HA.out (by simp [lockgateref14_Alu.j1])
     | succ kj13 =>
      have H := HA.out
      clear HA
      simp only [lockgateref14_Alu.j1] at H
      by_cases c33 : x38_13 = true
      ·subst c33
       have H1 : (some (0, 0, 0, 20)) = some (r1, r2, r3, r4) := by rw [if_pos rfl] at H; exact H
       clear H
       have H := H1
       clear H1
       simp only [Option.some.injEq, Prod.mk.injEq] at H
       obtain ⟨rfl, rfl, rfl, rfl⟩ := H
       have hnb34 := NB189_187.out
       have hnc34 := NB187_189.out
       have hnb35 := NB189_188.out
       have hnc35 := NB188_189.out
       obtain ⟨zc36_0, zc36_1, zc36_2, zf36_0, zf36_1, zf36_2⟩ := k3_ BK189
       go_wp2
       refine bodyPost_ret (results_ct rfl _ _ gb189 24 #[.int .i64 0, .int .u64 0, .int .i64 0] (0, 0) _ rfl (by (with_reducible repeat (first | apply bN_ | apply bD_ | apply bA_)); refine blk_put (cs := #[.int .i64 0, .int .u64 0, .int .i64 0]) ?_ 2 _ rfl; (with_reducible repeat (first | apply bN_ | apply bD_ | apply bA_)); refine blk_put (cs := #[.int .i64 0, .int .u64 0, .int .i64 0]) ?_ 1 _ rfl; (with_reducible repeat (first | apply bN_ | apply bD_ | apply bA_)); refine blk_put (cs := #[.int .i64 0, .int .u64 0, .int .i64 0]) ?_ 0 _ rfl; exact bk_) Try.underlying24 rfl (by kernel_rfl)) rfl ?_
       exact ⟨vv_, bz_⟩
      ·replace c33 := Bool.eq_false_iff.mpr c33
       subst c33
       have H1 : (if (a0 != 11) = true then (if a2_0 = 1 then (if (a0 != 8) = true then (lockgateref14_Alu.j2 kj13 a0 a1 (a3_0 == 1) a2_0 a2_1 a2_2 a3_0 a3_1 a3_2) else (lockgateref14_Alu.j2 kj13 a0 a1 true a2_0 a2_1 a2_2 a3_0 a3_1 a3_2)) else (lockgateref14_Alu.j2 kj13 a0 a1 false a2_0 a2_1 a2_2 a3_0 a3_1 a3_2)) else (if (a0 != 8) = true then (lockgateref14_Alu.j2 kj13 a0 a1 (a3_0 == 1) a2_0 a2_1 a2_2 a3_0 a3_1 a3_2) else (lockgateref14_Alu.j2 kj13 a0 a1 true a2_0 a2_1 a2_2 a3_0 a3_1 a3_2))) = some (r1, r2, r3, r4) := by rw [if_neg (show ¬ (false = true) by decide)] at H; exact H
       clear H
       have H := H1
       clear H1
       have HC37 := Aside0.mk H
       clear H
       go_upto_region 7 with (fail)
       go_cut [55] (fun v55 wc => ∃ (kq : Nat) (x55_36 : Bool), v55 = .bool x55_36 ∧ Aside0 (lockgateref14_Alu.j2 kq a0 a1 x55_36 a2_0 a2_1 a2_2 a3_0 a3_1 a3_2 = some (r1, r2, r3, r4)) ∧ Aside0 (kq ≤ kj13) ∧ Aside0 (wc.heap[gb187]? = some (.cells #[.int .i64 a2_0, .int .u64 a2_1, .int .i64 a2_2] 24 (0, 0))) ∧ Aside0 (wc.heap[gb188]? = some (.cells #[.int .i64 a3_0, .int .u64 a3_1, .int .i64 a3_2] 24 (0, 0))) ∧ Aside0 (wc.heap[gb189]? = some (.cells #[.int .i64 0, .int .u64 0, .int .i64 0] 24 (0, 0))) ∧ Aside0 (Below w.heap.size w wc))
       case first =>
        have H := HC37.out
        clear HC37
        by_cases c38 : (a0 != 11) = true
        ·rw [if_pos c38] at H
         have c38b0 : (a0 != 11) = true := c38
         (try (have c38b1 : decide (a0 = 11) = false := by simpa using c38))
         (try (have c38b2 : (a0 == 11) = false := by simpa using c38))
         (try (have c38b3 : ¬ (a0 = 11) := by simpa using c38))
         clear c38
         (first | rw [c38b0] | (simp only [i64_w, i32_w]; rw [c38b0]) | skip)
         by_cases c39 : a2_0 = 1
         ·rw [if_pos c39] at H
          have c39b0 : (a2_0 == 1) = true := beq_iff_eq.mpr c39
          have c39b1 : (a2_0 != 1) = false := bne_eq_false_iff_eq.mpr c39
          clear c39
          by_cases c40 : (a0 != 8) = true
          ·rw [if_pos c40] at H
           have c40b0 : (a0 != 8) = true := c40
           (try (have c40b1 : decide (a0 = 8) = false := by simpa using c40))
           (try (have c40b2 : (a0 == 8) = false := by simpa using c40))
           (try (have c40b3 : ¬ (a0 = 8) := by simpa using c40))
           clear c40
           have H' := Aside0.mk H
           clear H
           have hnb41 := NB187_188.out
           have hnc41 := NB188_187.out
           have hnb42 := NB187_189.out
           have hnc42 := NB189_187.out
           obtain ⟨zc43_0, zc43_1, zc43_2, zf43_0, zf43_1, zf43_2⟩ := k3_ BK187
           have hnb44 := NB188_189.out
           have hnc44 := NB189_188.out
           obtain ⟨zc45_0, zc45_1, zc45_2, zf45_0, zf45_1, zf45_2⟩ := k3_ BK188
           go_wp2
           (first | go_meet | (refine Met.intro ?_; go_step; (simp only [c40b0, c39b1, c39b0, c38b0] at H' ⊢); (repeat apply Exists.intro); refine ⟨?rel, rfl⟩))
           case rel => exact ⟨_, ((a3_0 == 1)), (by first | rfl | (simp; done) | (simp [*]; done)), H', ⟨by have := HJ4.out; have := HJ13.out; first | omega | exact Nat.le_refl _⟩, ⟨bk_⟩, ⟨bk_⟩, ⟨bk_⟩, ⟨bz_⟩⟩
          ·rw [if_neg c40] at H
           have c40b0 : (a0 != 8) = false := by simpa using c40
           (try (have c40b1 : decide (a0 = 8) = true := by simpa using c40))
           (try (have c40b2 : (a0 == 8) = true := by simpa using c40))
           clear c40
           have H' := Aside0.mk H
           clear H
           have hnb46 := NB187_188.out
           have hnc46 := NB188_187.out
           have hnb47 := NB187_189.out
           have hnc47 := NB189_187.out
           obtain ⟨zc48_0, zc48_1, zc48_2, zf48_0, zf48_1, zf48_2⟩ := k3_ BK187
           go_wp2
           (first | go_meet | (refine Met.intro ?_; go_step; (simp only [c40b0, c39b1, c39b0, c38b0] at H' ⊢); (repeat apply Exists.intro); refine ⟨?rel, rfl⟩))
           case rel => exact ⟨_, (true), (by first | rfl | (simp; done) | (simp [*]; done)), H', ⟨by have := HJ4.out; have := HJ13.out; first | omega | exact Nat.le_refl _⟩, ⟨bk_⟩, ⟨bk_⟩, ⟨bk_⟩, ⟨bz_⟩⟩
         ·rw [if_neg c39] at H
          have c39b0 : (a2_0 == 1) = false := beq_eq_false_iff_ne.mpr c39
          have c39b1 : (a2_0 != 1) = true := bne_iff_ne.mpr c39
          have H' := Aside0.mk H
          clear H
          have hnb49 := NB187_188.out
          have hnc49 := NB188_187.out
          have hnb50 := NB187_189.out
          have hnc50 := NB189_187.out
          obtain ⟨zc51_0, zc51_1, zc51_2, zf51_0, zf51_1, zf51_2⟩ := k3_ BK187
          go_wp2
          (first | go_meet | (refine Met.intro ?_; go_step; (simp only [c39b1, c39b0, c38b0] at H' ⊢); (repeat apply Exists.intro); refine ⟨?rel, rfl⟩))
          case rel => exact ⟨_, (false), (by first | rfl | (simp; done) | (simp [*]; done)), H', ⟨by have := HJ4.out; have := HJ13.out; first | omega | exact Nat.le_refl _⟩, ⟨bk_⟩, ⟨bk_⟩, ⟨bk_⟩, ⟨bz_⟩⟩
        ·rw [if_neg c38] at H
         have c38b0 : (a0 != 11) = false := by simpa using c38
         (try (have c38b1 : decide (a0 = 11) = true := by simpa using c38))
         (try (have c38b2 : (a0 == 11) = true := by simpa using c38))
         clear c38
         (first | rw [c38b0] | (simp only [i64_w, i32_w]; rw [c38b0]) | skip)
         by_cases c52 : (a0 != 8) = true
         ·rw [if_pos c52] at H
          have c52b0 : (a0 != 8) = true := c52
          (try (have c52b1 : decide (a0 = 8) = false := by simpa using c52))
          (try (have c52b2 : (a0 == 8) = false := by simpa using c52))
          (try (have c52b3 : ¬ (a0 = 8) := by simpa using c52))
          clear c52
          have H' := Aside0.mk H
          clear H
          have hnb53 := NB188_187.out
          have hnc53 := NB187_188.out
          have hnb54 := NB188_189.out
          have hnc54 := NB189_188.out
          obtain ⟨zc55_0, zc55_1, zc55_2, zf55_0, zf55_1, zf55_2⟩ := k3_ BK188
          go_wp2
          (first | go_meet | (refine Met.intro ?_; go_step; (simp only [c52b0, c38b0] at H' ⊢); (repeat apply Exists.intro); refine ⟨?rel, rfl⟩))
          case rel => exact ⟨_, ((a3_0 == 1)), (by first | rfl | (simp; done) | (simp [*]; done)), H', ⟨by have := HJ4.out; have := HJ13.out; first | omega | exact Nat.le_refl _⟩, ⟨bk_⟩, ⟨bk_⟩, ⟨bk_⟩, ⟨bz_⟩⟩
         ·rw [if_neg c52] at H
          have c52b0 : (a0 != 8) = false := by simpa using c52
          (try (have c52b1 : decide (a0 = 8) = true := by simpa using c52))
          (try (have c52b2 : (a0 == 8) = true := by simpa using c52))
          clear c52
          have H' := Aside0.mk H
          clear H
          go_wp2
          (first | go_meet | (refine Met.intro ?_; go_step; (simp only [c52b0, c38b0] at H' ⊢); (repeat apply Exists.intro); refine ⟨?rel, rfl⟩))
          case rel => exact ⟨_, (true), (by first | rfl | (simp; done) | (simp [*]; done)), H', ⟨by have := HJ4.out; have := HJ13.out; first | omega | exact Nat.le_refl _⟩, ⟨bk_⟩, ⟨bk_⟩, ⟨bk_⟩, ⟨bz_⟩⟩
       case rest =>
        clear HC37
        try clear c1
        try clear c2
        try clear p2
        try clear c3
        try clear c4
        try clear c5
        try clear c9
        try clear c9b0
        try clear c10
        try clear c11
        try clear c12
        try clear c15
        try clear c15b0
        try clear c15b1
        try clear c16
        try clear c16b0
        try clear c16b1
        try clear c17
        try clear c18
        try clear c20
        try clear c20b0
        try clear c20b1
        try clear c21
        try clear c22
        try clear c24
        try clear c24b0
        try clear c24b1
        try clear c25
        try clear c26
        try clear c28
        try clear c29
        try clear c31
        try clear c33
        try clear c34
        try clear c35
        try clear c38
        try clear c38b0
        try clear c38b1
        try clear c38b2
        try clear c39
        try clear c39b0
        try clear c39b1
        try clear c40
        try clear c40b0
        try clear c40b1
        try clear c40b2
        try clear c41
        try clear c42
        try clear c44
        try clear c46
        try clear c47
        try clear c49
        try clear c50
        try clear c52
        try clear c52b0
        try clear c52b1
        try clear c52b2
        try clear c53
        try clear c54
        try clear zc13_0
        try clear zc13_1
        try clear zc13_2
        try clear zc19_0
        try clear zc19_1
        try clear zc19_2
        try clear zc23_0
        try clear zc23_1
        try clear zc23_2
        try clear zc27_0
        try clear zc27_1
        try clear zc27_2
        try clear zc30_0
        try clear zc30_1
        try clear zc30_2
        try clear zc32_0
        try clear zc32_1
        try clear zc32_2
        try clear zc36_0
        try clear zc36_1
        try clear zc36_2
        try clear zc43_0
        try clear zc43_1
        try clear zc43_2
        try clear zc45_0
        try clear zc45_1
        try clear zc45_2
        try clear zc48_0
        try clear zc48_1
        try clear zc48_2
        try clear zc51_0
        try clear zc51_1
        try clear zc51_2
        try clear zc55_0
        try clear zc55_1
        try clear zc55_2
        try clear zf13_0
        try clear zf13_1
        try clear zf13_2
        try clear zf19_0
        try clear zf19_1
        try clear zf19_2
        try clear zf23_0
        try clear zf23_1
        try clear zf23_2
        try clear zf27_0
        try clear zf27_1
        try clear zf27_2
        try clear zf30_0
        try clear zf30_1
        try clear zf30_2
        try clear zf32_0
        try clear zf32_1
        try clear zf32_2
        try clear zf36_0
        try clear zf36_1
        try clear zf36_2
        try clear zf43_0
        try clear zf43_1
        try clear zf43_2
        try clear zf45_0
        try clear zf45_1
        try clear zf45_2
        try clear zf48_0
        try clear zf48_1
        try clear zf48_2
        try clear zf51_0
        try clear zf51_1
        try clear zf51_2
        try clear zf55_0
        try clear zf55_1
        try clear zf55_2
        try clear p2
        obtain ⟨kq, x55_36, rfl, HA, HJ36, BK187, BK188, BK189, HB⟩ := hcut
        cases kq with
        | zero => exact absurd HA.out (by simp [lockgateref14_Alu.j2])
        | succ kj36 =>
         have H := HA.out
         clear HA
         simp only [lockgateref14_Alu.j2] at H
         by_cases c56 : x55_36 = true
         ·subst c56
          have H1 : ((lockgateref01_Alu.f kj36 a0 a1 a2_1 a3_1).bind fun bt190 => ((lockgateref14_Num.f bt190.1).bind fun bt192 => (some (bt192.1, bt192.2.1, bt192.2.2, 0)))) = some (r1, r2, r3, r4) := by rw [if_pos rfl] at H; exact H
          clear H
          have H := H1
          clear H1
          replace H := Option.bind_eq_some_iff.mp H
          obtain ⟨⟨t190, t191⟩, A570, H⟩ := H
          replace H : ((lockgateref14_Num.f t190).bind fun bt192 => (some (bt192.1, bt192.2.1, bt192.2.2, 0))) = some (r1, r2, r3, r4) := H
          have A57 := Aside0.mk A570
          clear A570
          replace H := Option.bind_eq_some_iff.mp H
          obtain ⟨⟨t192, t193, t194⟩, A580, H⟩ := H
          replace H : (some (t192, t193, t194, 0)) = some (r1, r2, r3, r4) := H
          have A58 := Aside0.mk A580
          clear A580
          simp only [Option.some.injEq, Prod.mk.injEq] at H
          obtain ⟨rfl, rfl, rfl, rfl⟩ := H
          have hnb59 := NB187_188.out
          have hnc59 := NB188_187.out
          have hnb60 := NB187_189.out
          have hnc60 := NB189_187.out
          obtain ⟨zc61_0, zc61_1, zc61_2, zf61_0, zf61_1, zf61_2⟩ := k3_ BK187
          have hnb62 := NB188_189.out
          have hnc62 := NB189_188.out
          obtain ⟨zc63_0, zc63_1, zc63_2, zf63_0, zf63_1, zf63_2⟩ := k3_ BK188
          go_wp2_with (first | ((with_reducible refine gate_callee (f := 29) rfl ?_); refine gM_ 63 Try.func29 (lockgateref01_Alu.calls kj36 a0 a1 a2_1 a3_1 t190 t191 _ A57.out) ?_; rintro w' ⟨nd, rfl⟩; (try (rw [drewN_self wc]; generalize hq_ : World.drewN wc _ = wc; have n0_ : Aside0 (wc.heap[gb187]? = some (.cells #[.int .i64 a2_0, .int .u64 a2_1, .int .i64 a2_2] 24 (0, 0))) := ⟨by rw [← hq_]; exact bk_⟩; have n1_ : Aside0 (wc.heap[gb188]? = some (.cells #[.int .i64 a3_0, .int .u64 a3_1, .int .i64 a3_2] 24 (0, 0))) := ⟨by rw [← hq_]; exact bk_⟩; have n2_ : Aside0 (wc.heap[gb189]? = some (.cells #[.int .i64 0, .int .u64 0, .int .i64 0] 24 (0, 0))) := ⟨by rw [← hq_]; exact bk_⟩; have n3_ : Aside0 (Below w.heap.size w wc) := ⟨by rw [← hq_]; exact bz_⟩; clear BK187 BK188 BK189 HB hq_; have BK187 := n0_; have BK188 := n1_; have BK189 := n2_; have HB := n3_; clear n0_ n1_ n2_ n3_))) | ((with_reducible refine gate_callee (f := 16) rfl ?_); refine gM_ 67 Try.func16 (lockgateref14_Num.calls t190 t192 t193 t194 _ A58.out) ?_; intro w64 hb; replace BK187 := bb_ hb BK187; replace BK188 := bb_ hb BK188; replace BK189 := bb_ hb BK189; replace HB := bl_ hb; (try clear hb); (try clear hb2); (try clear hk); (try clear hi); obtain ⟨zc65_0, zc65_1, zc65_2, zf65_0, zf65_1, zf65_2⟩ := k3_ BK189))
          refine bodyPost_ret (results_ct rfl _ _ gb189 24 #[.int .i64 t192, .int .u64 t193, .int .i64 t194] (0, 0) _ rfl (by (with_reducible repeat (first | apply bN_ | apply bD_ | apply bA_)); refine blk_put (cs := #[.int .i64 t192, .int .u64 t193, .int .i64 0]) ?_ 2 _ rfl; (with_reducible repeat (first | apply bN_ | apply bD_ | apply bA_)); refine blk_put (cs := #[.int .i64 t192, .int .u64 0, .int .i64 0]) ?_ 1 _ rfl; (with_reducible repeat (first | apply bN_ | apply bD_ | apply bA_)); refine blk_put (cs := #[.int .i64 0, .int .u64 0, .int .i64 0]) ?_ 0 _ rfl; exact bk_) Try.underlying24 rfl (by kernel_rfl)) rfl ?_
          exact ⟨vv_, bz_⟩
         ·replace c56 := Bool.eq_false_iff.mpr c56
          subst c56
          have H1 : (if a1 = true then (if a0 = 11 then (some (a3_0, a3_1, a3_2, 0)) else (if a0 = 0 then ((lockgateref14_Places.f a2_0 a2_1 a2_2).bind fun t195 => (if t195 = true then (lockgateref14_Alu.j3 kj36 a0 (a3_0 == 1) a2_0 a2_1 a2_2 a3_0 a3_1 a3_2) else (lockgateref14_Alu.j3 kj36 a0 false a2_0 a2_1 a2_2 a3_0 a3_1 a3_2))) else (lockgateref14_Alu.j3 kj36 a0 false a2_0 a2_1 a2_2 a3_0 a3_1 a3_2))) else (some (0, 0, 0, 21))) = some (r1, r2, r3, r4) := by rw [if_neg (show ¬ (false = true) by decide)] at H; exact H
          clear H
          have H := H1
          clear H1
          by_cases c66 : a1 = true
          ·subst c66
           have H1 : (if a0 = 11 then (some (a3_0, a3_1, a3_2, 0)) else (if a0 = 0 then ((lockgateref14_Places.f a2_0 a2_1 a2_2).bind fun t195 => (if t195 = true then (lockgateref14_Alu.j3 kj36 a0 (a3_0 == 1) a2_0 a2_1 a2_2 a3_0 a3_1 a3_2) else (lockgateref14_Alu.j3 kj36 a0 false a2_0 a2_1 a2_2 a3_0 a3_1 a3_2))) else (lockgateref14_Alu.j3 kj36 a0 false a2_0 a2_1 a2_2 a3_0 a3_1 a3_2))) = some (r1, r2, r3, r4) := by rw [if_pos rfl] at H; exact H
           clear H
           have H := H1
           clear H1
           by_cases c67 : a0 = 11
           ·rw [if_pos c67] at H
            have c67b0 : (a0 == 11) = true := beq_iff_eq.mpr c67
            have c67b1 : (a0 != 11) = false := bne_eq_false_iff_eq.mpr c67
            clear c67
            simp only [Option.some.injEq, Prod.mk.injEq] at H
            obtain ⟨rfl, rfl, rfl, rfl⟩ := H
            have hnb68 := NB188_187.out
            have hnc68 := NB187_188.out
            have hnb69 := NB188_189.out
            have hnc69 := NB189_188.out
            obtain ⟨zc70_0, zc70_1, zc70_2, zf70_0, zf70_1, zf70_2⟩ := k3_ BK188
            have hnb71 := NB189_187.out
            have hnc71 := NB187_189.out
            obtain ⟨zc72_0, zc72_1, zc72_2, zf72_0, zf72_1, zf72_2⟩ := k3_ BK189
            go_wp2
            refine bodyPost_ret (results_ct rfl _ _ gb189 24 #[.int .i64 a3_0, .int .u64 a3_1, .int .i64 a3_2] (0, 0) _ rfl (by (with_reducible repeat (first | apply bN_ | apply bD_ | apply bA_)); refine blk_put (cs := #[.int .i64 a3_0, .int .u64 a3_1, .int .i64 0]) ?_ 2 _ rfl; (with_reducible repeat (first | apply bN_ | apply bD_ | apply bA_)); refine blk_put (cs := #[.int .i64 a3_0, .int .u64 0, .int .i64 0]) ?_ 1 _ rfl; (with_reducible repeat (first | apply bN_ | apply bD_ | apply bA_)); refine blk_put (cs := #[.int .i64 0, .int .u64 0, .int .i64 0]) ?_ 0 _ rfl; exact bk_) Try.underlying24 rfl (by kernel_rfl)) rfl ?_
            exact ⟨vv_, bz_⟩
           ·rw [if_neg c67] at H
            have c67b0 : (a0 == 11) = false := beq_eq_false_iff_ne.mpr c67
            have c67b1 : (a0 != 11) = true := bne_iff_ne.mpr c67
            have HC73 := Aside0.mk H
            clear H
            go_upto_region 14 with (fail)
            go_cut [84] (fun v84 wc => ∃ (kq : Nat) (x84_72 : Bool), v84 = .bool x84_72 ∧ Aside0 (lockgateref14_Alu.j3 kq a0 x84_72 a2_0 a2_1 a2_2 a3_0 a3_1 a3_2 = some (r1, r2, r3, r4)) ∧ Aside0 (kq ≤ kj36) ∧ Aside0 (wc.heap[gb187]? = some (.cells #[.int .i64 a2_0, .int .u64 a2_1, .int .i64 a2_2] 24 (0, 0))) ∧ Aside0 (wc.heap[gb188]? = some (.cells #[.int .i64 a3_0, .int .u64 a3_1, .int .i64 a3_2] 24 (0, 0))) ∧ Aside0 (wc.heap[gb189]? = some (.cells #[.int .i64 0, .int .u64 0, .int .i64 0] 24 (0, 0))) ∧ Aside0 (Below w.heap.size w wc))
            case first =>
             have H := HC73.out
             clear HC73
             by_cases c74 : a0 = 0
             ·rw [if_pos c74] at H
              have c74b0 : (a0 == 0) = true := beq_iff_eq.mpr c74
              have c74b1 : (a0 != 0) = false := bne_eq_false_iff_eq.mpr c74
              clear c74
              (first | rw [c74b0] | (simp only [i64_w, i32_w]; rw [c74b0]) | skip)
              replace H := Option.bind_eq_some_iff.mp H
              obtain ⟨t195, A750, H⟩ := H
              replace H : (if t195 = true then (lockgateref14_Alu.j3 kj36 a0 (a3_0 == 1) a2_0 a2_1 a2_2 a3_0 a3_1 a3_2) else (lockgateref14_Alu.j3 kj36 a0 false a2_0 a2_1 a2_2 a3_0 a3_1 a3_2)) = some (r1, r2, r3, r4) := H
              have A75 := Aside0.mk A750
              clear A750
              by_cases c76 : t195 = true
              ·subst c76
               have H1 : (lockgateref14_Alu.j3 kj36 a0 (a3_0 == 1) a2_0 a2_1 a2_2 a3_0 a3_1 a3_2) = some (r1, r2, r3, r4) := by rw [if_pos rfl] at H; exact H
               clear H
               have H := H1
               clear H1
               have H' := Aside0.mk H
               clear H
               have hnb77 := NB187_188.out
               have hnc77 := NB188_187.out
               have hnb78 := NB187_189.out
               have hnc78 := NB189_187.out
               obtain ⟨zc79_0, zc79_1, zc79_2, zf79_0, zf79_1, zf79_2⟩ := k3_ BK187
               go_wp2_with (first | (go_at_call 14; (with_reducible refine (lockgateref14_Places.calls a2_0 a2_1 a2_2 true _ A75.out).mono ?_); rintro e w80 ⟨rfl, hb⟩; replace BK187 := bb_ hb BK187; replace BK188 := bb_ hb BK188; replace BK189 := bb_ hb BK189; replace HB := bl_ hb; (try clear hb); (try clear hb2); (try clear hk); (try clear hi); have hnb81 := NB188_189.out; have hnc81 := NB189_188.out; obtain ⟨zc82_0, zc82_1, zc82_2, zf82_0, zf82_1, zf82_2⟩ := k3_ BK188))
               (first | go_meet | (refine Met.intro ?_; go_step; (simp only [c74b1, c74b0, c67b1, c67b0] at H' ⊢); (repeat apply Exists.intro); refine ⟨?rel, rfl⟩))
               case rel => exact ⟨_, ((a3_0 == 1)), (by first | rfl | (simp; done) | (simp [*]; done)), H', ⟨by have := HJ4.out; have := HJ13.out; have := HJ36.out; first | omega | exact Nat.le_refl _⟩, ⟨bk_⟩, ⟨bk_⟩, ⟨bk_⟩, ⟨bz_⟩⟩
              ·replace c76 := Bool.eq_false_iff.mpr c76
               subst c76
               have H1 : (lockgateref14_Alu.j3 kj36 a0 false a2_0 a2_1 a2_2 a3_0 a3_1 a3_2) = some (r1, r2, r3, r4) := by rw [if_neg (show ¬ (false = true) by decide)] at H; exact H
               clear H
               have H := H1
               clear H1
               have H' := Aside0.mk H
               clear H
               have hnb83 := NB187_188.out
               have hnc83 := NB188_187.out
               have hnb84 := NB187_189.out
               have hnc84 := NB189_187.out
               obtain ⟨zc85_0, zc85_1, zc85_2, zf85_0, zf85_1, zf85_2⟩ := k3_ BK187
               go_wp2_with (first | (go_at_call 14; (with_reducible refine (lockgateref14_Places.calls a2_0 a2_1 a2_2 false _ A75.out).mono ?_); rintro e w86 ⟨rfl, hb⟩; replace BK187 := bb_ hb BK187; replace BK188 := bb_ hb BK188; replace BK189 := bb_ hb BK189; replace HB := bl_ hb; (try clear hb); (try clear hb2); (try clear hk); (try clear hi)))
               (first | go_meet | (refine Met.intro ?_; go_step; (simp only [c74b1, c74b0, c67b1, c67b0] at H' ⊢); (repeat apply Exists.intro); refine ⟨?rel, rfl⟩))
               case rel => exact ⟨_, (false), (by first | rfl | (simp; done) | (simp [*]; done)), H', ⟨by have := HJ4.out; have := HJ13.out; have := HJ36.out; first | omega | exact Nat.le_refl _⟩, ⟨bk_⟩, ⟨bk_⟩, ⟨bk_⟩, ⟨bz_⟩⟩
             ·rw [if_neg c74] at H
              have c74b0 : (a0 == 0) = false := beq_eq_false_iff_ne.mpr c74
              have c74b1 : (a0 != 0) = true := bne_iff_ne.mpr c74
              (first | rw [c74b0] | (simp only [i64_w, i32_w]; rw [c74b0]) | skip)
              have H' := Aside0.mk H
              clear H
              go_wp2
              (first | go_meet | (refine Met.intro ?_; go_step; (simp only [c74b1, c74b0, c67b1, c67b0] at H' ⊢); (repeat apply Exists.intro); refine ⟨?rel, rfl⟩))
              case rel => exact ⟨_, (false), (by first | rfl | (simp; done) | (simp [*]; done)), H', ⟨by have := HJ4.out; have := HJ13.out; have := HJ36.out; first | omega | exact Nat.le_refl _⟩, ⟨bk_⟩, ⟨bk_⟩, ⟨bk_⟩, ⟨bz_⟩⟩
            case rest =>
             clear HC73
             try clear c1
             try clear c2
             try clear p2
             try clear c3
             try clear c4
             try clear c5
             try clear c6
             try clear c7
             try clear c8
             try clear c9
             try clear c9b0
             try clear c10
             try clear c11
             try clear c12
             try clear c15
             try clear c15b0
             try clear c15b1
             try clear c16
             try clear c16b0
             try clear c16b1
             try clear c17
             try clear c18
             try clear c20
             try clear c20b0
             try clear c20b1
             try clear c21
             try clear c22
             try clear c24
             try clear c24b0
             try clear c24b1
             try clear c25
             try clear c26
             try clear c28
             try clear c29
             try clear c31
             try clear c33
             try clear c34
             try clear c35
             try clear c38
             try clear c38b0
             try clear c38b1
             try clear c38b2
             try clear c39
             try clear c39b0
             try clear c39b1
             try clear c40
             try clear c40b0
             try clear c40b1
             try clear c40b2
             try clear c41
             try clear c42
             try clear c44
             try clear c46
             try clear c47
             try clear c49
             try clear c50
             try clear c52
             try clear c52b0
             try clear c52b1
             try clear c52b2
             try clear c53
             try clear c54
             try clear c56
             try clear c59
             try clear c60
             try clear c62
             try clear c66
             try clear c67
             try clear c67b0
             try clear c67b1
             try clear c68
             try clear c69
             try clear c71
             try clear c74
             try clear c74b0
             try clear c74b1
             try clear c76
             try clear c77
             try clear c78
             try clear c81
             try clear c83
             try clear c84
             try clear zc13_0
             try clear zc13_1
             try clear zc13_2
             try clear zc19_0
             try clear zc19_1
             try clear zc19_2
             try clear zc23_0
             try clear zc23_1
             try clear zc23_2
             try clear zc27_0
             try clear zc27_1
             try clear zc27_2
             try clear zc30_0
             try clear zc30_1
             try clear zc30_2
             try clear zc32_0
             try clear zc32_1
             try clear zc32_2
             try clear zc36_0
             try clear zc36_1
             try clear zc36_2
             try clear zc43_0
             try clear zc43_1
             try clear zc43_2
             try clear zc45_0
             try clear zc45_1
             try clear zc45_2
             try clear zc48_0
             try clear zc48_1
             try clear zc48_2
             try clear zc51_0
             try clear zc51_1
             try clear zc51_2
             try clear zc55_0
             try clear zc55_1
             try clear zc55_2
             try clear zc61_0
             try clear zc61_1
             try clear zc61_2
             try clear zc63_0
             try clear zc63_1
             try clear zc63_2
             try clear zc65_0
             try clear zc65_1
             try clear zc65_2
             try clear zc70_0
             try clear zc70_1
             try clear zc70_2
             try clear zc72_0
             try clear zc72_1
             try clear zc72_2
             try clear zc79_0
             try clear zc79_1
             try clear zc79_2
             try clear zc82_0
             try clear zc82_1
             try clear zc82_2
             try clear zc85_0
             try clear zc85_1
             try clear zc85_2
             try clear zf13_0
             try clear zf13_1
             try clear zf13_2
             try clear zf19_0
             try clear zf19_1
             try clear zf19_2
             try clear zf23_0
             try clear zf23_1
             try clear zf23_2
             try clear zf27_0
             try clear zf27_1
             try clear zf27_2
             try clear zf30_0
             try clear zf30_1
             try clear zf30_2
             try clear zf32_0
             try clear zf32_1
             try clear zf32_2
             try clear zf36_0
             try clear zf36_1
             try clear zf36_2
             try clear zf43_0
             try clear zf43_1
             try clear zf43_2
             try clear zf45_0
             try clear zf45_1
             try clear zf45_2
             try clear zf48_0
             try clear zf48_1
             try clear zf48_2
             try clear zf51_0
             try clear zf51_1
             try clear zf51_2
             try clear zf55_0
             try clear zf55_1
             try clear zf55_2
             try clear zf61_0
             try clear zf61_1
             try clear zf61_2
             try clear zf63_0
             try clear zf63_1
             try clear zf63_2
             try clear zf65_0
             try clear zf65_1
             try clear zf65_2
             try clear zf70_0
             try clear zf70_1
             try clear zf70_2
             try clear zf72_0
             try clear zf72_1
             try clear zf72_2
             try clear zf79_0
             try clear zf79_1
             try clear zf79_2
             try clear zf82_0
             try clear zf82_1
             try clear zf82_2
             try clear zf85_0
             try clear zf85_1
             try clear zf85_2
             try clear p2
             obtain ⟨kq, x84_72, rfl, HA, HJ72, BK187, BK188, BK189, HB⟩ := hcut
             cases kq with
             | zero => exact absurd HA.out (by simp [lockgateref14_Alu.j3])
             | succ kj72 =>
              have H := HA.out
              clear HA
              simp only [lockgateref14_Alu.j3] at H
              by_cases c87 : x84_72 = true
              ·subst c87
               have H1 : (some (a2_0, IntKind.u64.wrap (a2_1 + a3_1), a2_2, 0)) = some (r1, r2, r3, r4) := by rw [if_pos rfl] at H; exact H
               clear H
               have H := H1
               clear H1
               simp only [Option.some.injEq, Prod.mk.injEq] at H
               obtain ⟨rfl, rfl, rfl, rfl⟩ := H
               have hnb88 := NB187_188.out
               have hnc88 := NB188_187.out
               have hnb89 := NB187_189.out
               have hnc89 := NB189_187.out
               obtain ⟨zc90_0, zc90_1, zc90_2, zf90_0, zf90_1, zf90_2⟩ := k3_ BK187
               have hnb91 := NB188_189.out
               have hnc91 := NB189_188.out
               obtain ⟨zc92_0, zc92_1, zc92_2, zf92_0, zf92_1, zf92_2⟩ := k3_ BK188
               obtain ⟨zc93_0, zc93_1, zc93_2, zf93_0, zf93_1, zf93_2⟩ := k3_ BK189
               go_wp2
               refine bodyPost_ret (results_ct rfl _ _ gb189 24 #[.int .i64 a2_0, .int .u64 (IntKind.u64.wrap (a2_1 + a3_1)), .int .i64 a2_2] (0, 0) _ rfl (by (with_reducible repeat (first | apply bN_ | apply bD_ | apply bA_)); refine blk_put (cs := #[.int .i64 a2_0, .int .u64 (IntKind.u64.wrap (a2_1 + a3_1)), .int .i64 0]) ?_ 2 _ rfl; (with_reducible repeat (first | apply bN_ | apply bD_ | apply bA_)); refine blk_put (cs := #[.int .i64 a2_0, .int .u64 0, .int .i64 0]) ?_ 1 _ rfl; (with_reducible repeat (first | apply bN_ | apply bD_ | apply bA_)); refine blk_put (cs := #[.int .i64 0, .int .u64 0, .int .i64 0]) ?_ 0 _ rfl; (with_reducible repeat (first | apply bN_ | apply bD_ | apply bA_)); refine blk_far ?_ NB189_187.out _; exact bk_) Try.underlying24 rfl (by kernel_rfl)) rfl ?_
               exact ⟨vv_, bz_⟩
              ·replace c87 := Bool.eq_false_iff.mpr c87
               subst c87
               have H1 : (if a0 = 0 then (if a2_0 = 1 then ((lockgateref14_Places.f a3_0 a3_1 a3_2).bind fun t196 => (lockgateref14_Alu.j4 kj72 a0 t196 a2_0 a2_1 a2_2 a3_0 a3_1 a3_2)) else (lockgateref14_Alu.j4 kj72 a0 false a2_0 a2_1 a2_2 a3_0 a3_1 a3_2)) else (lockgateref14_Alu.j4 kj72 a0 false a2_0 a2_1 a2_2 a3_0 a3_1 a3_2)) = some (r1, r2, r3, r4) := by rw [if_neg (show ¬ (false = true) by decide)] at H; exact H
               clear H
               have H := H1
               clear H1
               have HC94 := Aside0.mk H
               clear H
               go_upto_region 17 with (fail)
               go_cut [102] (fun v102 wc => ∃ (kq : Nat) (x102_93 : Bool), v102 = .bool x102_93 ∧ Aside0 (lockgateref14_Alu.j4 kq a0 x102_93 a2_0 a2_1 a2_2 a3_0 a3_1 a3_2 = some (r1, r2, r3, r4)) ∧ Aside0 (kq ≤ kj72) ∧ Aside0 (wc.heap[gb187]? = some (.cells #[.int .i64 a2_0, .int .u64 a2_1, .int .i64 a2_2] 24 (0, 0))) ∧ Aside0 (wc.heap[gb188]? = some (.cells #[.int .i64 a3_0, .int .u64 a3_1, .int .i64 a3_2] 24 (0, 0))) ∧ Aside0 (wc.heap[gb189]? = some (.cells #[.int .i64 0, .int .u64 0, .int .i64 0] 24 (0, 0))) ∧ Aside0 (Below w.heap.size w wc))
               case first =>
                have H := HC94.out
                clear HC94
                by_cases c95 : a0 = 0
                ·rw [if_pos c95] at H
                 have c95b0 : (a0 == 0) = true := beq_iff_eq.mpr c95
                 have c95b1 : (a0 != 0) = false := bne_eq_false_iff_eq.mpr c95
                 clear c95
                 (first | rw [c95b0] | (simp only [i64_w, i32_w]; rw [c95b0]) | skip)
                 by_cases c96 : a2_0 = 1
                 ·rw [if_pos c96] at H
                  have c96b0 : (a2_0 == 1) = true := beq_iff_eq.mpr c96
                  have c96b1 : (a2_0 != 1) = false := bne_eq_false_iff_eq.mpr c96
                  clear c96
                  replace H := Option.bind_eq_some_iff.mp H
                  obtain ⟨t196, A970, H⟩ := H
                  replace H : (lockgateref14_Alu.j4 kj72 a0 t196 a2_0 a2_1 a2_2 a3_0 a3_1 a3_2) = some (r1, r2, r3, r4) := H
                  have A97 := Aside0.mk A970
                  clear A970
                  have H' := Aside0.mk H
                  clear H
                  have hnb98 := NB187_188.out
                  have hnc98 := NB188_187.out
                  have hnb99 := NB187_189.out
                  have hnc99 := NB189_187.out
                  obtain ⟨zc100_0, zc100_1, zc100_2, zf100_0, zf100_1, zf100_2⟩ := k3_ BK187
                  have hnb101 := NB188_189.out
                  have hnc101 := NB189_188.out
                  obtain ⟨zc102_0, zc102_1, zc102_2, zf102_0, zf102_1, zf102_2⟩ := k3_ BK188
                  go_wp2_with (first | (go_at_call 14; (with_reducible refine (lockgateref14_Places.calls a3_0 a3_1 a3_2 t196 _ A97.out).mono ?_); rintro e w103 ⟨rfl, hb⟩; replace BK187 := bb_ hb BK187; replace BK188 := bb_ hb BK188; replace BK189 := bb_ hb BK189; replace HB := bl_ hb; (try clear hb); (try clear hb2); (try clear hk); (try clear hi)))
                  (first | go_meet | (refine Met.intro ?_; go_step; (simp only [c96b1, c96b0, c95b1, c95b0, c67b1, c67b0] at H' ⊢); (repeat apply Exists.intro); refine ⟨?rel, rfl⟩))
                  case rel => exact ⟨_, (t196), (by first | rfl | (simp; done) | (simp [*]; done)), H', ⟨by have := HJ4.out; have := HJ13.out; have := HJ36.out; have := HJ72.out; first | omega | exact Nat.le_refl _⟩, ⟨bk_⟩, ⟨bk_⟩, ⟨bk_⟩, ⟨bz_⟩⟩
                 ·rw [if_neg c96] at H
                  have c96b0 : (a2_0 == 1) = false := beq_eq_false_iff_ne.mpr c96
                  have c96b1 : (a2_0 != 1) = true := bne_iff_ne.mpr c96
                  have H' := Aside0.mk H
                  clear H
                  have hnb104 := NB187_188.out
                  have hnc104 := NB188_187.out
                  have hnb105 := NB187_189.out
                  have hnc105 := NB189_187.out
                  obtain ⟨zc106_0, zc106_1, zc106_2, zf106_0, zf106_1, zf106_2⟩ := k3_ BK187
                  go_wp2
                  (first | go_meet | (refine Met.intro ?_; go_step; (simp only [c96b1, c96b0, c95b1, c95b0, c67b1, c67b0] at H' ⊢); (repeat apply Exists.intro); refine ⟨?rel, rfl⟩))
                  case rel => exact ⟨_, (false), (by first | rfl | (simp; done) | (simp [*]; done)), H', ⟨by have := HJ4.out; have := HJ13.out; have := HJ36.out; have := HJ72.out; first | omega | exact Nat.le_refl _⟩, ⟨bk_⟩, ⟨bk_⟩, ⟨bk_⟩, ⟨bz_⟩⟩
                ·rw [if_neg c95] at H
                 have c95b0 : (a0 == 0) = false := beq_eq_false_iff_ne.mpr c95
                 have c95b1 : (a0 != 0) = true := bne_iff_ne.mpr c95
                 (first | rw [c95b0] | (simp only [i64_w, i32_w]; rw [c95b0]) | skip)
                 have H' := Aside0.mk H
                 clear H
                 go_wp2
                 (first | go_meet | (refine Met.intro ?_; go_step; (simp only [c95b1, c95b0, c67b1, c67b0] at H' ⊢); (repeat apply Exists.intro); refine ⟨?rel, rfl⟩))
                 case rel => exact ⟨_, (false), (by first | rfl | (simp; done) | (simp [*]; done)), H', ⟨by have := HJ4.out; have := HJ13.out; have := HJ36.out; have := HJ72.out; first | omega | exact Nat.le_refl _⟩, ⟨bk_⟩, ⟨bk_⟩, ⟨bk_⟩, ⟨bz_⟩⟩
               case rest =>
                clear HC94
                try clear c1
                try clear c2
                try clear p2
                try clear c3
                try clear c4
                try clear c5
                try clear c6
                try clear c7
                try clear c8
                try clear c9
                try clear c9b0
                try clear c10
                try clear c11
                try clear c12
                try clear c15
                try clear c15b0
                try clear c15b1
                try clear c16
                try clear c16b0
                try clear c16b1
                try clear c17
                try clear c18
                try clear c20
                try clear c20b0
                try clear c20b1
                try clear c21
                try clear c22
                try clear c24
                try clear c24b0
                try clear c24b1
                try clear c25
                try clear c26
                try clear c28
                try clear c29
                try clear c31
                try clear c33
                try clear c34
                try clear c35
                try clear c38
                try clear c38b0
                try clear c38b1
                try clear c38b2
                try clear c39
                try clear c39b0
                try clear c39b1
                try clear c40
                try clear c40b0
                try clear c40b1
                try clear c40b2
                try clear c41
                try clear c42
                try clear c44
                try clear c46
                try clear c47
                try clear c49
                try clear c50
                try clear c52
                try clear c52b0
                try clear c52b1
                try clear c52b2
                try clear c53
                try clear c54
                try clear c56
                try clear c59
                try clear c60
                try clear c62
                try clear c66
                try clear c67
                try clear c67b0
                try clear c67b1
                try clear c68
                try clear c69
                try clear c71
                try clear c74
                try clear c74b0
                try clear c74b1
                try clear c76
                try clear c77
                try clear c78
                try clear c81
                try clear c83
                try clear c84
                try clear c87
                try clear c88
                try clear c89
                try clear c91
                try clear c95
                try clear c95b0
                try clear c95b1
                try clear c96
                try clear c96b0
                try clear c96b1
                try clear c98
                try clear c99
                try clear c101
                try clear c104
                try clear c105
                try clear zc100_0
                try clear zc100_1
                try clear zc100_2
                try clear zc102_0
                try clear zc102_1
                try clear zc102_2
                try clear zc106_0
                try clear zc106_1
                try clear zc106_2
                try clear zc13_0
                try clear zc13_1
                try clear zc13_2
                try clear zc19_0
                try clear zc19_1
                try clear zc19_2
                try clear zc23_0
                try clear zc23_1
                try clear zc23_2
                try clear zc27_0
                try clear zc27_1
                try clear zc27_2
                try clear zc30_0
                try clear zc30_1
                try clear zc30_2
                try clear zc32_0
                try clear zc32_1
                try clear zc32_2
                try clear zc36_0
                try clear zc36_1
                try clear zc36_2
                try clear zc43_0
                try clear zc43_1
                try clear zc43_2
                try clear zc45_0
                try clear zc45_1
                try clear zc45_2
                try clear zc48_0
                try clear zc48_1
                try clear zc48_2
                try clear zc51_0
                try clear zc51_1
                try clear zc51_2
                try clear zc55_0
                try clear zc55_1
                try clear zc55_2
                try clear zc61_0
                try clear zc61_1
                try clear zc61_2
                try clear zc63_0
                try clear zc63_1
                try clear zc63_2
                try clear zc65_0
                try clear zc65_1
                try clear zc65_2
                try clear zc70_0
                try clear zc70_1
                try clear zc70_2
                try clear zc72_0
                try clear zc72_1
                try clear zc72_2
                try clear zc79_0
                try clear zc79_1
                try clear zc79_2
                try clear zc82_0
                try clear zc82_1
                try clear zc82_2
                try clear zc85_0
                try clear zc85_1
                try clear zc85_2
                try clear zc90_0
                try clear zc90_1
                try clear zc90_2
                try clear zc92_0
                try clear zc92_1
                try clear zc92_2
                try clear zc93_0
                try clear zc93_1
                try clear zc93_2
                try clear zf100_0
                try clear zf100_1
                try clear zf100_2
                try clear zf102_0
                try clear zf102_1
                try clear zf102_2
                try clear zf106_0
                try clear zf106_1
                try clear zf106_2
                try clear zf13_0
                try clear zf13_1
                try clear zf13_2
                try clear zf19_0
                try clear zf19_1
                try clear zf19_2
                try clear zf23_0
                try clear zf23_1
                try clear zf23_2
                try clear zf27_0
                try clear zf27_1
                try clear zf27_2
                try clear zf30_0
                try clear zf30_1
                try clear zf30_2
                try clear zf32_0
                try clear zf32_1
                try clear zf32_2
                try clear zf36_0
                try clear zf36_1
                try clear zf36_2
                try clear zf43_0
                try clear zf43_1
                try clear zf43_2
                try clear zf45_0
                try clear zf45_1
                try clear zf45_2
                try clear zf48_0
                try clear zf48_1
                try clear zf48_2
                try clear zf51_0
                try clear zf51_1
                try clear zf51_2
                try clear zf55_0
                try clear zf55_1
                try clear zf55_2
                try clear zf61_0
                try clear zf61_1
                try clear zf61_2
                try clear zf63_0
                try clear zf63_1
                try clear zf63_2
                try clear zf65_0
                try clear zf65_1
                try clear zf65_2
                try clear zf70_0
                try clear zf70_1
                try clear zf70_2
                try clear zf72_0
                try clear zf72_1
                try clear zf72_2
                try clear zf79_0
                try clear zf79_1
                try clear zf79_2
                try clear zf82_0
                try clear zf82_1
                try clear zf82_2
                try clear zf85_0
                try clear zf85_1
                try clear zf85_2
                try clear zf90_0
                try clear zf90_1
                try clear zf90_2
                try clear zf92_0
                try clear zf92_1
                try clear zf92_2
                try clear zf93_0
                try clear zf93_1
                try clear zf93_2
                try clear p2
                obtain ⟨kq, x102_93, rfl, HA, HJ93, BK187, BK188, BK189, HB⟩ := hcut
                cases kq with
                | zero => exact absurd HA.out (by simp [lockgateref14_Alu.j4])
                | succ kj93 =>
                 have H := HA.out
                 clear HA
                 simp only [lockgateref14_Alu.j4] at H
                 by_cases c107 : x102_93 = true
                 ·subst c107
                  have H1 : (some (a3_0, IntKind.u64.wrap (a3_1 + a2_1), a3_2, 0)) = some (r1, r2, r3, r4) := by rw [if_pos rfl] at H; exact H
                  clear H
                  have H := H1
                  clear H1
                  simp only [Option.some.injEq, Prod.mk.injEq] at H
                  obtain ⟨rfl, rfl, rfl, rfl⟩ := H
                  have hnb108 := NB188_187.out
                  have hnc108 := NB187_188.out
                  have hnb109 := NB188_189.out
                  have hnc109 := NB189_188.out
                  obtain ⟨zc110_0, zc110_1, zc110_2, zf110_0, zf110_1, zf110_2⟩ := k3_ BK188
                  have hnb111 := NB187_189.out
                  have hnc111 := NB189_187.out
                  obtain ⟨zc112_0, zc112_1, zc112_2, zf112_0, zf112_1, zf112_2⟩ := k3_ BK187
                  obtain ⟨zc113_0, zc113_1, zc113_2, zf113_0, zf113_1, zf113_2⟩ := k3_ BK189
                  go_wp2
                  refine bodyPost_ret (results_ct rfl _ _ gb189 24 #[.int .i64 a3_0, .int .u64 (IntKind.u64.wrap (a3_1 + a2_1)), .int .i64 a3_2] (0, 0) _ rfl (by (with_reducible repeat (first | apply bN_ | apply bD_ | apply bA_)); refine blk_put (cs := #[.int .i64 a3_0, .int .u64 (IntKind.u64.wrap (a3_1 + a2_1)), .int .i64 0]) ?_ 2 _ rfl; (with_reducible repeat (first | apply bN_ | apply bD_ | apply bA_)); refine blk_put (cs := #[.int .i64 a3_0, .int .u64 0, .int .i64 0]) ?_ 1 _ rfl; (with_reducible repeat (first | apply bN_ | apply bD_ | apply bA_)); refine blk_put (cs := #[.int .i64 0, .int .u64 0, .int .i64 0]) ?_ 0 _ rfl; (with_reducible repeat (first | apply bN_ | apply bD_ | apply bA_)); refine blk_far ?_ NB189_188.out _; exact bk_) Try.underlying24 rfl (by kernel_rfl)) rfl ?_
                  exact ⟨vv_, bz_⟩
                 ·replace c107 := Bool.eq_false_iff.mpr c107
                  subst c107
                  have H1 : (if a0 = 1 then ((lockgateref14_Places.f a2_0 a2_1 a2_2).bind fun t197 => (if t197 = true then (if a3_0 = 1 then (some (a2_0, IntKind.u64.wrap (a2_1 - a3_1), a2_2, 0)) else (some (0, 0, 0, 21))) else (some (0, 0, 0, 21)))) else (some (0, 0, 0, 21))) = some (r1, r2, r3, r4) := by rw [if_neg (show ¬ (false = true) by decide)] at H; exact H
                  clear H
                  have H := H1
                  clear H1
                  by_cases c114 : a0 = 1
                  ·rw [if_pos c114] at H
                   have c114b0 : (a0 == 1) = true := beq_iff_eq.mpr c114
                   have c114b1 : (a0 != 1) = false := bne_eq_false_iff_eq.mpr c114
                   clear c114
                   replace H := Option.bind_eq_some_iff.mp H
                   obtain ⟨t197, A1150, H⟩ := H
                   replace H : (if t197 = true then (if a3_0 = 1 then (some (a2_0, IntKind.u64.wrap (a2_1 - a3_1), a2_2, 0)) else (some (0, 0, 0, 21))) else (some (0, 0, 0, 21))) = some (r1, r2, r3, r4) := H
                   have A115 := Aside0.mk A1150
                   clear A1150
                   by_cases c116 : t197 = true
                   ·subst c116
                    have H1 : (if a3_0 = 1 then (some (a2_0, IntKind.u64.wrap (a2_1 - a3_1), a2_2, 0)) else (some (0, 0, 0, 21))) = some (r1, r2, r3, r4) := by rw [if_pos rfl] at H; exact H
                    clear H
                    have H := H1
                    clear H1
                    by_cases c117 : a3_0 = 1
                    ·rw [if_pos c117] at H
                     have c117b0 : (a3_0 == 1) = true := beq_iff_eq.mpr c117
                     have c117b1 : (a3_0 != 1) = false := bne_eq_false_iff_eq.mpr c117
                     clear c117
                     simp only [Option.some.injEq, Prod.mk.injEq] at H
                     obtain ⟨rfl, rfl, rfl, rfl⟩ := H
                     have hnb118 := NB187_188.out
                     have hnc118 := NB188_187.out
                     have hnb119 := NB187_189.out
                     have hnc119 := NB189_187.out
                     obtain ⟨zc120_0, zc120_1, zc120_2, zf120_0, zf120_1, zf120_2⟩ := k3_ BK187
                     go_wp2_with (first | (go_at_call 14; (with_reducible refine (lockgateref14_Places.calls a2_0 a2_1 a2_2 true _ A115.out).mono ?_); rintro e w121 ⟨rfl, hb⟩; replace BK187 := bb_ hb BK187; replace BK188 := bb_ hb BK188; replace BK189 := bb_ hb BK189; replace HB := bl_ hb; (try clear hb); (try clear hb2); (try clear hk); (try clear hi); have hnb122 := NB188_189.out; have hnc122 := NB189_188.out; obtain ⟨zc123_0, zc123_1, zc123_2, zf123_0, zf123_1, zf123_2⟩ := k3_ BK188; obtain ⟨zc124_0, zc124_1, zc124_2, zf124_0, zf124_1, zf124_2⟩ := k3_ BK187; obtain ⟨zc125_0, zc125_1, zc125_2, zf125_0, zf125_1, zf125_2⟩ := k3_ BK189))
                     refine bodyPost_ret (results_ct rfl _ _ gb189 24 #[.int .i64 a2_0, .int .u64 (IntKind.u64.wrap (a2_1 - a3_1)), .int .i64 a2_2] (0, 0) _ rfl (by (with_reducible repeat (first | apply bN_ | apply bD_ | apply bA_)); refine blk_put (cs := #[.int .i64 a2_0, .int .u64 (IntKind.u64.wrap (a2_1 - a3_1)), .int .i64 0]) ?_ 2 _ rfl; (with_reducible repeat (first | apply bN_ | apply bD_ | apply bA_)); refine blk_put (cs := #[.int .i64 a2_0, .int .u64 0, .int .i64 0]) ?_ 1 _ rfl; (with_reducible repeat (first | apply bN_ | apply bD_ | apply bA_)); refine blk_put (cs := #[.int .i64 0, .int .u64 0, .int .i64 0]) ?_ 0 _ rfl; (with_reducible repeat (first | apply bN_ | apply bD_ | apply bA_)); refine blk_far ?_ NB189_187.out _; exact bk_) Try.underlying24 rfl (by kernel_rfl)) rfl ?_
                     exact ⟨vv_, bz_⟩
                    ·rw [if_neg c117] at H
                     have c117b0 : (a3_0 == 1) = false := beq_eq_false_iff_ne.mpr c117
                     have c117b1 : (a3_0 != 1) = true := bne_iff_ne.mpr c117
                     simp only [Option.some.injEq, Prod.mk.injEq] at H
                     obtain ⟨rfl, rfl, rfl, rfl⟩ := H
                     have hnb126 := NB187_188.out
                     have hnc126 := NB188_187.out
                     have hnb127 := NB187_189.out
                     have hnc127 := NB189_187.out
                     obtain ⟨zc128_0, zc128_1, zc128_2, zf128_0, zf128_1, zf128_2⟩ := k3_ BK187
                     go_wp2_with (first | (go_at_call 14; (with_reducible refine (lockgateref14_Places.calls a2_0 a2_1 a2_2 true _ A115.out).mono ?_); rintro e w129 ⟨rfl, hb⟩; replace BK187 := bb_ hb BK187; replace BK188 := bb_ hb BK188; replace BK189 := bb_ hb BK189; replace HB := bl_ hb; (try clear hb); (try clear hb2); (try clear hk); (try clear hi); have hnb130 := NB188_189.out; have hnc130 := NB189_188.out; obtain ⟨zc131_0, zc131_1, zc131_2, zf131_0, zf131_1, zf131_2⟩ := k3_ BK188; obtain ⟨zc132_0, zc132_1, zc132_2, zf132_0, zf132_1, zf132_2⟩ := k3_ BK189))
                     refine bodyPost_ret (results_ct rfl _ _ gb189 24 #[.int .i64 0, .int .u64 0, .int .i64 0] (0, 0) _ rfl (by (with_reducible repeat (first | apply bN_ | apply bD_ | apply bA_)); refine blk_put (cs := #[.int .i64 0, .int .u64 0, .int .i64 0]) ?_ 2 _ rfl; (with_reducible repeat (first | apply bN_ | apply bD_ | apply bA_)); refine blk_put (cs := #[.int .i64 0, .int .u64 0, .int .i64 0]) ?_ 1 _ rfl; (with_reducible repeat (first | apply bN_ | apply bD_ | apply bA_)); refine blk_put (cs := #[.int .i64 0, .int .u64 0, .int .i64 0]) ?_ 0 _ rfl; exact bk_) Try.underlying24 rfl (by kernel_rfl)) rfl ?_
                     exact ⟨vv_, bz_⟩
                   ·replace c116 := Bool.eq_false_iff.mpr c116
                    subst c116
                    have H1 : (some (0, 0, 0, 21)) = some (r1, r2, r3, r4) := by rw [if_neg (show ¬ (false = true) by decide)] at H; exact H
                    clear H
                    have H := H1
                    clear H1
                    simp only [Option.some.injEq, Prod.mk.injEq] at H
                    obtain ⟨rfl, rfl, rfl, rfl⟩ := H
                    have hnb133 := NB187_188.out
                    have hnc133 := NB188_187.out
                    have hnb134 := NB187_189.out
                    have hnc134 := NB189_187.out
                    obtain ⟨zc135_0, zc135_1, zc135_2, zf135_0, zf135_1, zf135_2⟩ := k3_ BK187
                    go_wp2_with (first | (go_at_call 14; (with_reducible refine (lockgateref14_Places.calls a2_0 a2_1 a2_2 false _ A115.out).mono ?_); rintro e w136 ⟨rfl, hb⟩; replace BK187 := bb_ hb BK187; replace BK188 := bb_ hb BK188; replace BK189 := bb_ hb BK189; replace HB := bl_ hb; (try clear hb); (try clear hb2); (try clear hk); (try clear hi); have hnb137 := NB189_188.out; have hnc137 := NB188_189.out; obtain ⟨zc138_0, zc138_1, zc138_2, zf138_0, zf138_1, zf138_2⟩ := k3_ BK189))
                    refine bodyPost_ret (results_ct rfl _ _ gb189 24 #[.int .i64 0, .int .u64 0, .int .i64 0] (0, 0) _ rfl (by (with_reducible repeat (first | apply bN_ | apply bD_ | apply bA_)); refine blk_put (cs := #[.int .i64 0, .int .u64 0, .int .i64 0]) ?_ 2 _ rfl; (with_reducible repeat (first | apply bN_ | apply bD_ | apply bA_)); refine blk_put (cs := #[.int .i64 0, .int .u64 0, .int .i64 0]) ?_ 1 _ rfl; (with_reducible repeat (first | apply bN_ | apply bD_ | apply bA_)); refine blk_put (cs := #[.int .i64 0, .int .u64 0, .int .i64 0]) ?_ 0 _ rfl; exact bk_) Try.underlying24 rfl (by kernel_rfl)) rfl ?_
                    exact ⟨vv_, bz_⟩
                  ·rw [if_neg c114] at H
                   have c114b0 : (a0 == 1) = false := beq_eq_false_iff_ne.mpr c114
                   have c114b1 : (a0 != 1) = true := bne_iff_ne.mpr c114
                   simp only [Option.some.injEq, Prod.mk.injEq] at H
                   obtain ⟨rfl, rfl, rfl, rfl⟩ := H
                   have hnb139 := NB189_187.out
                   have hnc139 := NB187_189.out
                   have hnb140 := NB189_188.out
                   have hnc140 := NB188_189.out
                   obtain ⟨zc141_0, zc141_1, zc141_2, zf141_0, zf141_1, zf141_2⟩ := k3_ BK189
                   go_wp2
                   refine bodyPost_ret (results_ct rfl _ _ gb189 24 #[.int .i64 0, .int .u64 0, .int .i64 0] (0, 0) _ rfl (by (with_reducible repeat (first | apply bN_ | apply bD_ | apply bA_)); refine blk_put (cs := #[.int .i64 0, .int .u64 0, .int .i64 0]) ?_ 2 _ rfl; (with_reducible repeat (first | apply bN_ | apply bD_ | apply bA_)); refine blk_put (cs := #[.int .i64 0, .int .u64 0, .int .i64 0]) ?_ 1 _ rfl; (with_reducible repeat (first | apply bN_ | apply bD_ | apply bA_)); refine blk_put (cs := #[.int .i64 0, .int .u64 0, .int .i64 0]) ?_ 0 _ rfl; exact bk_) Try.underlying24 rfl (by kernel_rfl)) rfl ?_
                   exact ⟨vv_, bz_⟩
          ·replace c66 := Bool.eq_false_iff.mpr c66
           subst c66
           have H1 : (some (0, 0, 0, 21)) = some (r1, r2, r3, r4) := by rw [if_neg (show ¬ (false = true) by decide)] at H; exact H
           clear H
           have H := H1
           clear H1
           simp only [Option.some.injEq, Prod.mk.injEq] at H
           obtain ⟨rfl, rfl, rfl, rfl⟩ := H
           have hnb142 := NB189_187.out
           have hnc142 := NB187_189.out
           have hnb143 := NB189_188.out
           have hnc143 := NB188_189.out
           obtain ⟨zc144_0, zc144_1, zc144_2, zf144_0, zf144_1, zf144_2⟩ := k3_ BK189
           go_wp2
           refine bodyPost_ret (results_ct rfl _ _ gb189 24 #[.int .i64 0, .int .u64 0, .int .i64 0] (0, 0) _ rfl (by (with_reducible repeat (first | apply bN_ | apply bD_ | apply bA_)); refine blk_put (cs := #[.int .i64 0, .int .u64 0, .int .i64 0]) ?_ 2 _ rfl; (with_reducible repeat (first | apply bN_ | apply bD_ | apply bA_)); refine blk_put (cs := #[.int .i64 0, .int .u64 0, .int .i64 0]) ?_ 1 _ rfl; (with_reducible repeat (first | apply bN_ | apply bD_ | apply bA_)); refine blk_put (cs := #[.int .i64 0, .int .u64 0, .int .i64 0]) ?_ 0 _ rfl; exact bk_) Try.underlying24 rfl (by kernel_rfl)) rfl ?_
           exact ⟨vv_, bz_⟩

end Go.Proofs.Ytnpbhippkcikoaa.PA
