-- PRINTED by print.py (a twelfth state) out of the translation. Not trusted: Lean checks it.
import Derived.Test.YtnpbhippkcikoaaPA0
import Derived.Test.YtnpbhippkcikoaaSq
import Derived.Test.YtnpbhippkcikoaaPA2
import Derived.Test.YtnpbhippkcikoaaPA3
import Derived.Test.YtnpbhippkcikoaaPA8
namespace Go.Proofs.Ytnpbhippkcikoaa.PA
open Go.RowKit Go.Proofs.YtnpbhippkcikoaaW.PrintWords Go.Proofs.YtnpbhippkcikoaaW.PrintLast Go.Proofs.YtnpbhippkcikoaaW.PrintMore
attribute [local go_sem] max2_int min2_int max_two min_two max_three min_three max_four min_four   -- for this text's walks alone
set_option linter.unusedVariables false
set_option linter.unusedSimpArgs false

attribute [local go_sem high] eqA49
/-! ### value_Compare: function 20 -/
mutual
def value_Compare.j0 : Nat → Int → Bool → Int → Bool → Int → Int → Int → Int → Int → Int → Int → Int → Int → Int → Int → Option (Bool × Int)
 | 0, _, _, _, _, _, _, _, _, _, _, _, _, _, _, _ => none
 | k + 1, x0, x1, x4, x34, x211000, x211001, x211002, x212000, x212001, x212002, x218000, x218001, x218002, x219000, x219001 => if x34 = true then (some (false, 20)) else (if (x219000 == 1 && (x219001 == 1)) = true then ((word_Jump.f k x0 x1 x211001 x212001).bind fun bt219 => (some (bt219.1, 0))) else (if x1 = true then (if x0 = 1 then (value_Compare.j1 k x0 x4 true x211000 x211001 x211002 x212000 x212001 x212002 x218000 x218001 x218002 x219000 x219001) else (value_Compare.j1 k x0 x4 (x0 == 5) x211000 x211001 x211002 x212000 x212001 x212002 x218000 x218001 x218002 x219000 x219001)) else (some (false, 21))))
def value_Compare.j1 : Nat → Int → Int → Bool → Int → Int → Int → Int → Int → Int → Int → Int → Int → Int → Int → Option (Bool × Int)
 | 0, _, _, _, _, _, _, _, _, _, _, _, _, _, _ => none
 | k + 1, x0, x4, x61, x211000, x211001, x211002, x212000, x212001, x212002, x218000, x218001, x218002, x219000, x219001 => if x61 = true then (if x211000 = 6 then ((value_sameNumber.f x212000 x212001 x212002 x218000 x218001 x218002).bind fun t221 => (if t221 = true then (some ((x0 == 5), 0)) else (if x212000 = 6 then ((value_sameNumber.f x211000 x211001 x211002 x218000 x218001 x218002).bind fun t222 => (if t222 = true then (some ((x0 == 5), 0)) else (some (false, 21)))) else (some (false, 21))))) else (if x212000 = 6 then ((value_sameNumber.f x211000 x211001 x211002 x218000 x218001 x218002).bind fun t223 => (if t223 = true then (some ((x0 == 5), 0)) else (some (false, 21)))) else (some (false, 21)))) else (if (x219000 == 2 && (x219001 == 3)) = true then ((value_ordered.f x0 (wrap64 (x211001)) x4).bind fun bt224 => (if bt224.2 = true then (some (bt224.1, 0)) else (some (false, 21)))) else (if (x219000 == 3 && (x219001 == 2)) = true then ((value_ordered.f x0 x4 (wrap64 (x212001))).bind fun bt226 => (if bt226.2 = true then (some (bt226.1, 0)) else (some (false, 21)))) else (some (false, 21))))
end
def value_Compare.f (k : Nat) (a0 : Int) (a1 : Bool) (a2_0 : Int) (a2_1 : Int) (a2_2 : Int) (a3_0 : Int) (a3_1 : Int) (a3_2 : Int) (a4 : Int) : Option (Bool × Int) := (word_Jump.f k a0 a1 0 0).bind fun bt212 => (if bt212.2 = true then ((value_Num.f 0).bind fun bt214 => (if a2_0 = 0 then (value_Compare.j0 k a0 a1 a4 true a2_0 a2_1 a2_2 a3_0 a3_1 a3_2 bt214.1 bt214.2.1 bt214.2.2 a2_0 a3_0) else (value_Compare.j0 k a0 a1 a4 (a3_0 == 0) a2_0 a2_1 a2_2 a3_0 a3_1 a3_2 bt214.1 bt214.2.1 bt214.2.2 a2_0 a3_0))) else (some (false, 4)))
theorem value_Compare.mono_l : ∀ k, (∀ y0 y1 y2 y3 y4 y5 y6 y7 y8 y9 y10 y11 y12 y13 y14, LeO (value_Compare.j0 k y0 y1 y2 y3 y4 y5 y6 y7 y8 y9 y10 y11 y12 y13 y14) (value_Compare.j0 (k + 1) y0 y1 y2 y3 y4 y5 y6 y7 y8 y9 y10 y11 y12 y13 y14)) ∧ (∀ y0 y1 y2 y3 y4 y5 y6 y7 y8 y9 y10 y11 y12 y13, LeO (value_Compare.j1 k y0 y1 y2 y3 y4 y5 y6 y7 y8 y9 y10 y11 y12 y13) (value_Compare.j1 (k + 1) y0 y1 y2 y3 y4 y5 y6 y7 y8 y9 y10 y11 y12 y13))
 | 0 => ⟨fun _ _ _ _ _ _ _ _ _ _ _ _ _ _ _ r h => by simp [value_Compare.j0] at h, fun _ _ _ _ _ _ _ _ _ _ _ _ _ _ r h => by simp [value_Compare.j1] at h⟩
 | k + 1 => by
  obtain ⟨ih0, ih1⟩ := value_Compare.mono_l k
  refine ⟨?_, ?_⟩
  ·intro y0 y1 y2 y3 y4 y5 y6 y7 y8 y9 y10 y11 y12 y13 y14
   unfold value_Compare.j0
   repeat' first
   | (with_reducible exact ih0 _ _ _ _ _ _ _ _ _ _ _ _ _ _ _)
   | (with_reducible exact ih1 _ _ _ _ _ _ _ _ _ _ _ _ _ _)
   | (with_reducible exact word_Jump.mono _ _ _ _ _)
   | (with_reducible exact LeO.refl _)
   | (with_reducible exact LeO.none _)
   | (with_reducible refine LeO.ite ?_ ?_)
   | (with_reducible refine LeO.bind ?_ (fun _ => ?_))
   | exact ih0 _ _ _ _ _ _ _ _ _ _ _ _ _ _ _
   | exact ih1 _ _ _ _ _ _ _ _ _ _ _ _ _ _
   | exact word_Jump.mono _ _ _ _ _
   | exact LeO.none _
   | refine LeO.ite ?_ ?_
   | refine LeO.bind ?_ (fun _ => ?_)
  ·intro y0 y1 y2 y3 y4 y5 y6 y7 y8 y9 y10 y11 y12 y13
   unfold value_Compare.j1
   repeat' first
   | (with_reducible exact ih0 _ _ _ _ _ _ _ _ _ _ _ _ _ _ _)
   | (with_reducible exact ih1 _ _ _ _ _ _ _ _ _ _ _ _ _ _)
   | (with_reducible exact word_Jump.mono _ _ _ _ _)
   | (with_reducible exact LeO.refl _)
   | (with_reducible exact LeO.none _)
   | (with_reducible refine LeO.ite ?_ ?_)
   | (with_reducible refine LeO.bind ?_ (fun _ => ?_))
   | exact ih0 _ _ _ _ _ _ _ _ _ _ _ _ _ _ _
   | exact ih1 _ _ _ _ _ _ _ _ _ _ _ _ _ _
   | exact word_Jump.mono _ _ _ _ _
   | exact LeO.none _
   | refine LeO.ite ?_ ?_
   | refine LeO.bind ?_ (fun _ => ?_)
theorem value_Compare.mono : ∀ a0 a1 a2 a3 a4 a5 a6 a7 a8 k, LeO (value_Compare.f k a0 a1 a2 a3 a4 a5 a6 a7 a8) (value_Compare.f (k + 1) a0 a1 a2 a3 a4 a5 a6 a7 a8) := by
 intro a0 a1 a2 a3 a4 a5 a6 a7 a8 k
 obtain ⟨ih0, ih1⟩ := value_Compare.mono_l k
 unfold value_Compare.f
 repeat' first
  | (with_reducible exact ih0 _ _ _ _ _ _ _ _ _ _ _ _ _ _ _)
  | (with_reducible exact ih1 _ _ _ _ _ _ _ _ _ _ _ _ _ _)
  | (with_reducible exact word_Jump.mono _ _ _ _ _)
  | (with_reducible exact LeO.refl _)
  | (with_reducible exact LeO.none _)
  | (with_reducible refine LeO.ite ?_ ?_)
  | (with_reducible refine LeO.bind ?_ (fun _ => ?_))
  | exact ih0 _ _ _ _ _ _ _ _ _ _ _ _ _ _ _
  | exact ih1 _ _ _ _ _ _ _ _ _ _ _ _ _ _
  | exact word_Jump.mono _ _ _ _ _
  | exact LeO.none _
  | refine LeO.ite ?_ ?_
  | refine LeO.bind ?_ (fun _ => ?_)
set_option maxHeartbeats 8000000 in
set_option maxRecDepth 100000 in
theorem value_Compare.calls (k : Nat) (a0 : Int) (a1 : Bool) (a2_0 : Int) (a2_1 : Int) (a2_2 : Int) (a3_0 : Int) (a3_1 : Int) (a3_2 : Int) (a4 : Int) (r1 : Bool) (r2 : Int) (w : World) (h : value_Compare.f k a0 a1 a2_0 a2_1 a2_2 a3_0 a3_1 a3_2 a4 = some (r1, r2)) :
 Calls Try.prog 20 #[.int .i64 a0, .bool a1, .agg #[.int .i64 a2_0, .int .u64 a2_1, .int .i64 a2_2], .agg #[.int .i64 a3_0, .int .u64 a3_1, .int .i64 a3_2], .int .i64 a4] w fun e w' => e = .returned (.tuple #[.bool r1, .int .i64 r2]) ∧ Below w.heap.size w w' := by
 have hu24 := Try.underlying24
 have hu49 := Try.underlying49
 have HB := Aside0.mk (Below.refl w.heap.size w)
 have H : ((word_Jump.f k a0 a1 0 0).bind fun bt212 => (if bt212.2 = true then ((value_Num.f 0).bind fun bt214 => (if a2_0 = 0 then (value_Compare.j0 k a0 a1 a4 true a2_0 a2_1 a2_2 a3_0 a3_1 a3_2 bt214.1 bt214.2.1 bt214.2.2 a2_0 a3_0) else (value_Compare.j0 k a0 a1 a4 (a3_0 == 0) a2_0 a2_1 a2_2 a3_0 a3_1 a3_2 bt214.1 bt214.2.1 bt214.2.2 a2_0 a3_0))) else (some (false, 4)))) = some (r1, r2) := h
 clear h
 replace H := Option.bind_eq_some_iff.mp H
 obtain ⟨⟨t212, t213⟩, A60, H⟩ := H
 replace H : (if t213 = true then ((value_Num.f 0).bind fun bt214 => (if a2_0 = 0 then (value_Compare.j0 k a0 a1 a4 true a2_0 a2_1 a2_2 a3_0 a3_1 a3_2 bt214.1 bt214.2.1 bt214.2.2 a2_0 a3_0) else (value_Compare.j0 k a0 a1 a4 (a3_0 == 0) a2_0 a2_1 a2_2 a3_0 a3_1 a3_2 bt214.1 bt214.2.1 bt214.2.2 a2_0 a3_0))) else (some (false, 4))) = some (r1, r2) := H
 have A6 := Aside0.mk A60
 clear A60
 by_cases c7 : t213 = true
 ·subst c7
  have H1 : ((value_Num.f 0).bind fun bt214 => (if a2_0 = 0 then (value_Compare.j0 k a0 a1 a4 true a2_0 a2_1 a2_2 a3_0 a3_1 a3_2 bt214.1 bt214.2.1 bt214.2.2 a2_0 a3_0) else (value_Compare.j0 k a0 a1 a4 (a3_0 == 0) a2_0 a2_1 a2_2 a3_0 a3_1 a3_2 bt214.1 bt214.2.1 bt214.2.2 a2_0 a3_0))) = some (r1, r2) := by rw [if_pos rfl] at H; exact H
  clear H
  have H := H1
  clear H1
  replace H := Option.bind_eq_some_iff.mp H
  obtain ⟨⟨t214, t215, t216⟩, A80, H⟩ := H
  replace H : (if a2_0 = 0 then (value_Compare.j0 k a0 a1 a4 true a2_0 a2_1 a2_2 a3_0 a3_1 a3_2 t214 t215 t216 a2_0 a3_0) else (value_Compare.j0 k a0 a1 a4 (a3_0 == 0) a2_0 a2_1 a2_2 a3_0 a3_1 a3_2 t214 t215 t216 a2_0 a3_0)) = some (r1, r2) := H
  have A8 := Aside0.mk A80
  clear A80
  have HC9 := Aside0.mk H
  clear H
  go_enter Try.func20, Try.ntmps20
  go_upto_region 6 with (first | ((with_reducible refine gate_dst (N := 7) rfl ?_); refine bx_ 7 #[.int .i64 a2_0, .int .u64 a2_1, .int .i64 a2_2] 24 ?_; intro gb210 hg w10 BK210 hb; have GW210 := bg_ hg; have GE210 := GW210; replace HB := bl_ hb; clear hb hg) | ((with_reducible refine gate_dst (N := 8) rfl ?_); refine bx_ 8 #[.int .i64 a3_0, .int .u64 a3_1, .int .i64 a3_2] 24 ?_; intro gb211 hg w11 BK211 hb; have GW211 := bg_ hg; have GE211 := GW211; have NB210_211 := bm_ hg BK210; have NB211_210 := bn_ hg BK210; replace BK210 := bb_ hb BK210; replace HB := bl_ hb; clear hb hg) | ((with_reducible refine gate_callee (f := 25) rfl ?_); refine gM_ 23 Try.func25 (word_Jump.calls k a0 a1 0 0 t212 true _ A6.out) ?_; rintro w' ⟨nd, rfl⟩; (try (rw [drewN_self w11]; generalize hq_ : World.drewN w11 _ = w11; have n0_ : Aside0 (w11.heap[gb210]? = some (.cells #[.int .i64 a2_0, .int .u64 a2_1, .int .i64 a2_2] 24 (0, 0))) := ⟨by rw [← hq_]; exact (by exact bk_)⟩; have n1_ : Aside0 (w11.heap[gb211]? = some (.cells #[.int .i64 a3_0, .int .u64 a3_1, .int .i64 a3_2] 24 (0, 0))) := ⟨by rw [← hq_]; exact (by exact bk_)⟩; have n2_ : Aside0 (Below w.heap.size w w11) := ⟨by rw [← hq_]; exact (by repeat (first | (with_reducible first | exact HB.out | apply lA_ | apply lN_ | apply lD_ | refine lS_ ?_ GE210.out | refine lS_ ?_ GE211.out) | exact HB.out))⟩; clear BK210 BK211 HB hq_; have BK210 := n0_; have BK211 := n1_; have HB := n2_; clear n0_ n1_ n2_)); obtain ⟨hcygb210_0, hcygb210_1, hcygb210_2, hfygb210_0, hfygb210_1, hfygb210_2⟩ := k3_ BK210; obtain ⟨hcygb211_0, hcygb211_1, hcygb211_2, hfygb211_0, hfygb211_1, hfygb211_2⟩ := k3_ BK211) | ((with_reducible refine gate_callee (f := 15) rfl ?_); refine gM_ 28 Try.func15 (value_Num.calls 0 t214 t215 t216 _ A8.out) ?_; intro w12 hb; replace BK210 := bb_ hb BK210; replace BK211 := bb_ hb BK211; replace HB := bl_ hb; (try clear hb); (try clear hb2); (try clear hk); (try clear hi)) | ((with_reducible refine gate_dst (N := 14) rfl ?_); refine bx_ 14 #[.int .i64 0, .int .u64 0, .int .i64 0] 24 ?_; intro gb217 hg w13 BK217 hb; have GW217 := bg_ hg; have GE217 := GW217; have NB210_217 := bm_ hg BK210; have NB217_210 := bn_ hg BK210; have NB211_217 := bm_ hg BK211; have NB217_211 := bn_ hg BK211; replace BK210 := bb_ hb BK210; replace BK211 := bb_ hb BK211; replace HB := bl_ hb; clear hb hg; have hnb14 := NB217_210.out; have hnc14 := NB210_217.out; have hnb15 := NB217_211.out; have hnc15 := NB211_217.out; obtain ⟨hcz16_0, hcz16_1, hcz16_2, hfz16_0, hfz16_1, hfz16_2⟩ := k3_ BK217; have hnb17 := NB210_211.out; have hnc17 := NB211_210.out; obtain ⟨hcz18_0, hcz18_1, hcz18_2, hfz18_0, hfz18_1, hfz18_2⟩ := k3_ BK210; obtain ⟨hcz19_0, hcz19_1, hcz19_2, hfz19_0, hfz19_1, hfz19_2⟩ := k3_ BK211) | ((with_reducible refine gate_dst (N := 15) rfl ?_); refine box_event ?hg (N := 15) ?hd (cs := #[.int .i64 0, .int .i64 0]) (t := 49) ?hr ?_; (case hd => rfl); (case hg => rfl); (case hr => first | (go_simp; done) | (go_simp; rfl)); intro gb218 hg w20 hbox hb; have n0_ := Aside0.mk (blk_below (g := gb210) (o := .cells #[.int .i64 a2_0, .int .u64 a2_1, .int .i64 a2_2] 24 (0, 0)) (by (with_reducible repeat (first | apply bN_ | apply bD_ | apply bA_)); refine blk_far ?_ NB210_217.out _; (with_reducible repeat (first | apply bN_ | apply bD_ | apply bA_)); refine blk_far ?_ NB210_217.out _; (with_reducible repeat (first | apply bN_ | apply bD_ | apply bA_)); refine blk_far ?_ NB210_217.out _; exact bk_) hb); have n1_ := Aside0.mk (blk_below (g := gb211) (o := .cells #[.int .i64 a3_0, .int .u64 a3_1, .int .i64 a3_2] 24 (0, 0)) (by (with_reducible repeat (first | apply bN_ | apply bD_ | apply bA_)); refine blk_far ?_ NB211_217.out _; (with_reducible repeat (first | apply bN_ | apply bD_ | apply bA_)); refine blk_far ?_ NB211_217.out _; (with_reducible repeat (first | apply bN_ | apply bD_ | apply bA_)); refine blk_far ?_ NB211_217.out _; exact bk_) hb); have n2_ := Aside0.mk (blk_below (g := gb217) (o := .cells #[.int .i64 t214, .int .u64 t215, .int .i64 t216] 24 (0, 0)) (by (with_reducible repeat (first | apply bN_ | apply bD_ | apply bA_)); refine blk_put (cs := #[.int .i64 t214, .int .u64 t215, .int .i64 0]) ?_ 2 _ rfl; (with_reducible repeat (first | apply bN_ | apply bD_ | apply bA_)); refine blk_put (cs := #[.int .i64 t214, .int .u64 0, .int .i64 0]) ?_ 1 _ rfl; (with_reducible repeat (first | apply bN_ | apply bD_ | apply bA_)); refine blk_put (cs := #[.int .i64 0, .int .u64 0, .int .i64 0]) ?_ 0 _ rfl; exact bk_) hb); have n3_ := bl_ hb; have n4_ := Aside0.mk (hbox); have n5_ := bg_ hg; have n6_ := bg_ hg; have n7_ := Aside0.mk ((by rw [hg]; exact Nat.ne_of_lt (blk_lt (g := gb210) (o := .cells #[.int .i64 a2_0, .int .u64 a2_1, .int .i64 a2_2] 24 (0, 0)) (by (with_reducible repeat (first | apply bN_ | apply bD_ | apply bA_)); refine blk_far ?_ NB210_217.out _; (with_reducible repeat (first | apply bN_ | apply bD_ | apply bA_)); refine blk_far ?_ NB210_217.out _; (with_reducible repeat (first | apply bN_ | apply bD_ | apply bA_)); refine blk_far ?_ NB210_217.out _; exact bk_)) : gb210 ≠ gb218)); have n8_ := Aside0.mk ((by rw [hg]; exact Nat.ne_of_gt (blk_lt (g := gb210) (o := .cells #[.int .i64 a2_0, .int .u64 a2_1, .int .i64 a2_2] 24 (0, 0)) (by (with_reducible repeat (first | apply bN_ | apply bD_ | apply bA_)); refine blk_far ?_ NB210_217.out _; (with_reducible repeat (first | apply bN_ | apply bD_ | apply bA_)); refine blk_far ?_ NB210_217.out _; (with_reducible repeat (first | apply bN_ | apply bD_ | apply bA_)); refine blk_far ?_ NB210_217.out _; exact bk_)) : gb218 ≠ gb210)); have n9_ := Aside0.mk ((by rw [hg]; exact Nat.ne_of_lt (blk_lt (g := gb211) (o := .cells #[.int .i64 a3_0, .int .u64 a3_1, .int .i64 a3_2] 24 (0, 0)) (by (with_reducible repeat (first | apply bN_ | apply bD_ | apply bA_)); refine blk_far ?_ NB211_217.out _; (with_reducible repeat (first | apply bN_ | apply bD_ | apply bA_)); refine blk_far ?_ NB211_217.out _; (with_reducible repeat (first | apply bN_ | apply bD_ | apply bA_)); refine blk_far ?_ NB211_217.out _; exact bk_)) : gb211 ≠ gb218)); have n10_ := Aside0.mk ((by rw [hg]; exact Nat.ne_of_gt (blk_lt (g := gb211) (o := .cells #[.int .i64 a3_0, .int .u64 a3_1, .int .i64 a3_2] 24 (0, 0)) (by (with_reducible repeat (first | apply bN_ | apply bD_ | apply bA_)); refine blk_far ?_ NB211_217.out _; (with_reducible repeat (first | apply bN_ | apply bD_ | apply bA_)); refine blk_far ?_ NB211_217.out _; (with_reducible repeat (first | apply bN_ | apply bD_ | apply bA_)); refine blk_far ?_ NB211_217.out _; exact bk_)) : gb218 ≠ gb211)); have n11_ := Aside0.mk ((by rw [hg]; exact Nat.ne_of_lt (blk_lt (g := gb217) (o := .cells #[.int .i64 t214, .int .u64 t215, .int .i64 t216] 24 (0, 0)) (by (with_reducible repeat (first | apply bN_ | apply bD_ | apply bA_)); refine blk_put (cs := #[.int .i64 t214, .int .u64 t215, .int .i64 0]) ?_ 2 _ rfl; (with_reducible repeat (first | apply bN_ | apply bD_ | apply bA_)); refine blk_put (cs := #[.int .i64 t214, .int .u64 0, .int .i64 0]) ?_ 1 _ rfl; (with_reducible repeat (first | apply bN_ | apply bD_ | apply bA_)); refine blk_put (cs := #[.int .i64 0, .int .u64 0, .int .i64 0]) ?_ 0 _ rfl; exact bk_)) : gb217 ≠ gb218)); have n12_ := Aside0.mk ((by rw [hg]; exact Nat.ne_of_gt (blk_lt (g := gb217) (o := .cells #[.int .i64 t214, .int .u64 t215, .int .i64 t216] 24 (0, 0)) (by (with_reducible repeat (first | apply bN_ | apply bD_ | apply bA_)); refine blk_put (cs := #[.int .i64 t214, .int .u64 t215, .int .i64 0]) ?_ 2 _ rfl; (with_reducible repeat (first | apply bN_ | apply bD_ | apply bA_)); refine blk_put (cs := #[.int .i64 t214, .int .u64 0, .int .i64 0]) ?_ 1 _ rfl; (with_reducible repeat (first | apply bN_ | apply bD_ | apply bA_)); refine blk_put (cs := #[.int .i64 0, .int .u64 0, .int .i64 0]) ?_ 0 _ rfl; exact bk_)) : gb218 ≠ gb217)); clear BK210; clear BK211; clear BK217; clear HB; have BK210 := n0_; have BK211 := n1_; have BK217 := n2_; have HB := n3_; have BK218 := n4_; have GW218 := n5_; have GE218 := n6_; have NB210_218 := n7_; have NB218_210 := n8_; have NB211_218 := n9_; have NB218_211 := n10_; have NB217_218 := n11_; have NB218_217 := n12_; clear n0_ n1_ n2_ n3_ n4_ n5_ n6_ n7_ n8_ n9_ n10_ n11_ n12_; clear hb hbox hg; have hnb21 := NB218_210.out; have hnc21 := NB210_218.out; have hnb22 := NB218_211.out; have hnc22 := NB211_218.out; have hnb23 := NB218_217.out; have hnc23 := NB217_218.out; obtain ⟨hcz24_0, hcz24_1, hfz24_0, hfz24_1⟩ := k2_ BK218))
  (try simp only [Act.put, s1_, s2_, s3_])
  go_cut [34] (fun v34 wc => ∃ (kq : Nat) (x34_8 : Bool), v34 = .bool x34_8 ∧ Aside0 (value_Compare.j0 kq a0 a1 a4 x34_8 a2_0 a2_1 a2_2 a3_0 a3_1 a3_2 t214 t215 t216 a2_0 a3_0 = some (r1, r2)) ∧ Aside0 (kq ≤ k) ∧ Aside0 (wc.heap[gb210]? = some (.cells #[.int .i64 a2_0, .int .u64 a2_1, .int .i64 a2_2] 24 (0, 0))) ∧ Aside0 (wc.heap[gb211]? = some (.cells #[.int .i64 a3_0, .int .u64 a3_1, .int .i64 a3_2] 24 (0, 0))) ∧ Aside0 (wc.heap[gb217]? = some (.cells #[.int .i64 t214, .int .u64 t215, .int .i64 t216] 24 (0, 0))) ∧ Aside0 (wc.heap[gb218]? = some (.cells #[.int .i64 a2_0, .int .i64 a3_0] 49 (0, 0))) ∧ Aside0 (Below w.heap.size w wc))
  case first =>
   have H := HC9.out
   clear HC9
   by_cases c25 : a2_0 = 0
   ·rw [if_pos c25] at H
    have c25b0 : (a2_0 == 0) = true := beq_iff_eq.mpr c25
    have c25b1 : (a2_0 != 0) = false := bne_eq_false_iff_eq.mpr c25
    clear c25
    (first | rw [c25b0] | (simp only [i64_w, i32_w]; rw [c25b0]) | skip)
    have H' := Aside0.mk H
    clear H
    have hnb26 := NB210_211.out
    have hnc26 := NB211_210.out
    have hnb27 := NB210_217.out
    have hnc27 := NB217_210.out
    have hnb28 := NB210_218.out
    have hnc28 := NB218_210.out
    obtain ⟨hcz29_0, hcz29_1, hcz29_2, hfz29_0, hfz29_1, hfz29_2⟩ := k3_ BK210
    go_wp2
    go_meet
    case rel => exact ⟨_, (true), (by first | rfl | (simp; done) | (simp [*]; done)), H', ⟨by first | omega | exact Nat.le_refl _⟩, ⟨by (with_reducible repeat (first | apply bN_ | apply bD_ | apply bA_)); refine blk_far ?_ NB210_218.out _; (with_reducible repeat (first | apply bN_ | apply bD_ | apply bA_)); refine blk_far ?_ NB210_218.out _; exact bk_⟩, ⟨by (with_reducible repeat (first | apply bN_ | apply bD_ | apply bA_)); refine blk_far ?_ NB211_218.out _; (with_reducible repeat (first | apply bN_ | apply bD_ | apply bA_)); refine blk_far ?_ NB211_218.out _; exact bk_⟩, ⟨by (with_reducible repeat (first | apply bN_ | apply bD_ | apply bA_)); refine blk_far ?_ NB217_218.out _; (with_reducible repeat (first | apply bN_ | apply bD_ | apply bA_)); refine blk_far ?_ NB217_218.out _; exact bk_⟩, ⟨by (with_reducible repeat (first | apply bN_ | apply bD_ | apply bA_)); refine blk_put (cs := #[.int .i64 a2_0, .int .i64 0]) ?_ 1 _ rfl; (with_reducible repeat (first | apply bN_ | apply bD_ | apply bA_)); refine blk_put (cs := #[.int .i64 0, .int .i64 0]) ?_ 0 _ rfl; exact bk_⟩, ⟨by repeat (first | (with_reducible first | exact HB.out | apply lA_ | apply lN_ | apply lD_ | refine lS_ ?_ GE210.out | refine lS_ ?_ GE211.out | refine lS_ ?_ GE217.out | refine lS_ ?_ GE218.out) | exact HB.out)⟩⟩
   ·rw [if_neg c25] at H
    have c25b0 : (a2_0 == 0) = false := beq_eq_false_iff_ne.mpr c25
    have c25b1 : (a2_0 != 0) = true := bne_iff_ne.mpr c25
    (first | rw [c25b0] | (simp only [i64_w, i32_w]; rw [c25b0]) | skip)
    have H' := Aside0.mk H
    clear H
    have hnb30 := NB210_211.out
    have hnc30 := NB211_210.out
    have hnb31 := NB210_217.out
    have hnc31 := NB217_210.out
    have hnb32 := NB210_218.out
    have hnc32 := NB218_210.out
    obtain ⟨hcz33_0, hcz33_1, hcz33_2, hfz33_0, hfz33_1, hfz33_2⟩ := k3_ BK210
    have hnb34 := NB211_217.out
    have hnc34 := NB217_211.out
    have hnb35 := NB211_218.out
    have hnc35 := NB218_211.out
    obtain ⟨hcz36_0, hcz36_1, hcz36_2, hfz36_0, hfz36_1, hfz36_2⟩ := k3_ BK211
    go_wp2
    go_meet
    case rel => exact ⟨_, ((a3_0 == 0)), (by first | rfl | (simp; done) | (simp [*]; done)), H', ⟨by first | omega | exact Nat.le_refl _⟩, ⟨by (with_reducible repeat (first | apply bN_ | apply bD_ | apply bA_)); refine blk_far ?_ NB210_218.out _; (with_reducible repeat (first | apply bN_ | apply bD_ | apply bA_)); refine blk_far ?_ NB210_218.out _; exact bk_⟩, ⟨by (with_reducible repeat (first | apply bN_ | apply bD_ | apply bA_)); refine blk_far ?_ NB211_218.out _; (with_reducible repeat (first | apply bN_ | apply bD_ | apply bA_)); refine blk_far ?_ NB211_218.out _; exact bk_⟩, ⟨by (with_reducible repeat (first | apply bN_ | apply bD_ | apply bA_)); refine blk_far ?_ NB217_218.out _; (with_reducible repeat (first | apply bN_ | apply bD_ | apply bA_)); refine blk_far ?_ NB217_218.out _; exact bk_⟩, ⟨by (with_reducible repeat (first | apply bN_ | apply bD_ | apply bA_)); refine blk_put (cs := #[.int .i64 a2_0, .int .i64 0]) ?_ 1 _ rfl; (with_reducible repeat (first | apply bN_ | apply bD_ | apply bA_)); refine blk_put (cs := #[.int .i64 0, .int .i64 0]) ?_ 0 _ rfl; exact bk_⟩, ⟨by repeat (first | (with_reducible first | exact HB.out | apply lA_ | apply lN_ | apply lD_ | refine lS_ ?_ GE210.out | refine lS_ ?_ GE211.out | refine lS_ ?_ GE217.out | refine lS_ ?_ GE218.out) | exact HB.out)⟩⟩
  case rest =>
   clear HC9
   try clear c1
   try clear c2
   try clear p2
   try clear c3
   try clear c7
   try clear c14
   try clear c15
   try clear c17
   try clear c20
   try clear c21
   try clear c22
   try clear c23
   try clear c25
   try clear c25b0
   try clear c25b1
   try clear c26
   try clear c27
   try clear c28
   try clear c30
   try clear c31
   try clear c32
   try clear c34
   try clear c35
   try clear hcz16_0
   try clear hcz16_1
   try clear hcz16_2
   try clear hcz18_0
   try clear hcz18_1
   try clear hcz18_2
   try clear hcz19_0
   try clear hcz19_1
   try clear hcz19_2
   try clear hcz24_0
   try clear hcz24_1
   try clear hcz29_0
   try clear hcz29_1
   try clear hcz29_2
   try clear hcz33_0
   try clear hcz33_1
   try clear hcz33_2
   try clear hcz36_0
   try clear hcz36_1
   try clear hcz36_2
   try clear hfz16_0
   try clear hfz16_1
   try clear hfz16_2
   try clear hfz18_0
   try clear hfz18_1
   try clear hfz18_2
   try clear hfz19_0
   try clear hfz19_1
   try clear hfz19_2
   try clear hfz24_0
   try clear hfz24_1
   try clear hfz29_0
   try clear hfz29_1
   try clear hfz29_2
   try clear hfz33_0
   try clear hfz33_1
   try clear hfz33_2
   try clear hfz36_0
   try clear hfz36_1
   try clear hfz36_2
   obtain ⟨kq, x34_8, rfl, HA, HJ8, BK210, BK211, BK217, BK218, HB⟩ := hcut
   cases kq with
   | zero => exact absurd HA.out (by simp [value_Compare.j0])
   | succ kj8 =>
    have H := HA.out
    clear HA
    simp only [value_Compare.j0] at H
    by_cases c37 : x34_8 = true
    ·subst c37
     have H1 : (some (false, 20)) = some (r1, r2) := by rw [if_pos rfl] at H; exact H
     clear H
     have H := H1
     clear H1
     simp only [Option.some.injEq, Prod.mk.injEq] at H
     obtain ⟨rfl, rfl⟩ := H
     go_wp2
     go_ret2
     exact ⟨vv_, bz_⟩
    ·replace c37 := Bool.eq_false_iff.mpr c37
     subst c37
     have H1 : (if (a2_0 == 1 && (a3_0 == 1)) = true then ((word_Jump.f kj8 a0 a1 a2_1 a3_1).bind fun bt219 => (some (bt219.1, 0))) else (if a1 = true then (if a0 = 1 then (value_Compare.j1 kj8 a0 a4 true a2_0 a2_1 a2_2 a3_0 a3_1 a3_2 t214 t215 t216 a2_0 a3_0) else (value_Compare.j1 kj8 a0 a4 (a0 == 5) a2_0 a2_1 a2_2 a3_0 a3_1 a3_2 t214 t215 t216 a2_0 a3_0)) else (some (false, 21)))) = some (r1, r2) := by rw [if_neg (show ¬ (false = true) by decide)] at H; exact H
     clear H
     have H := H1
     clear H1
     by_cases c38 : (a2_0 == 1 && (a3_0 == 1)) = true
     ·rw [if_pos c38] at H
      have c38b0 : (a2_0 == 1 && (a3_0 == 1)) = true := c38
      (try (have c38b1 : decide (a2_0 = 1 && (a3_0 == 1)) = true := by simpa using c38))
      (try (have c38b2 : (a2_0 == 1 && (a3_0 == 1)) = true := by simpa using c38))
      clear c38
      replace H := Option.bind_eq_some_iff.mp H
      obtain ⟨⟨t219, t220⟩, A390, H⟩ := H
      replace H : (some (t219, 0)) = some (r1, r2) := H
      have A39 := Aside0.mk A390
      clear A390
      simp only [Option.some.injEq, Prod.mk.injEq] at H
      obtain ⟨rfl, rfl⟩ := H
      have hnb40 := NB218_210.out
      have hnc40 := NB210_218.out
      have hnb41 := NB218_211.out
      have hnc41 := NB211_218.out
      have hnb42 := NB218_217.out
      have hnc42 := NB217_218.out
      obtain ⟨hcz43_0, hcz43_1, hfz43_0, hfz43_1⟩ := k2_ BK218
      have hnb44 := NB210_211.out
      have hnc44 := NB211_210.out
      have hnb45 := NB210_217.out
      have hnc45 := NB217_210.out
      obtain ⟨hcz46_0, hcz46_1, hcz46_2, hfz46_0, hfz46_1, hfz46_2⟩ := k3_ BK210
      have hnb47 := NB211_217.out
      have hnc47 := NB217_211.out
      obtain ⟨hcz48_0, hcz48_1, hcz48_2, hfz48_0, hfz48_1, hfz48_2⟩ := k3_ BK211
      go_wp2_with (first | ((with_reducible refine gate_callee (f := 25) rfl ?_); refine gM_ 54 Try.func25 (word_Jump.calls kj8 a0 a1 a2_1 a3_1 t219 t220 _ A39.out) ?_; rintro w' ⟨nd, rfl⟩))
      go_ret2
      exact ⟨vv_, bz_⟩
     ·rw [if_neg c38] at H
      have c38b0 : (a2_0 == 1 && (a3_0 == 1)) = false := by simpa using c38
      (try (have c38b1 : decide (a2_0 = 1 && (a3_0 == 1)) = false := by simpa using c38))
      (try (have c38b2 : (a2_0 == 1 && (a3_0 == 1)) = false := by simpa using c38))
      (try (have c38b3 : ¬ (a2_0 = 1 && (a3_0 == 1)) := by simpa using c38))
      clear c38
      by_cases c49 : a1 = true
      ·subst c49
       have H1 : (if a0 = 1 then (value_Compare.j1 kj8 a0 a4 true a2_0 a2_1 a2_2 a3_0 a3_1 a3_2 t214 t215 t216 a2_0 a3_0) else (value_Compare.j1 kj8 a0 a4 (a0 == 5) a2_0 a2_1 a2_2 a3_0 a3_1 a3_2 t214 t215 t216 a2_0 a3_0)) = some (r1, r2) := by rw [if_pos rfl] at H; exact H
       clear H
       have H := H1
       clear H1
       have HC50 := Aside0.mk H
       clear H
       have hnb51 := NB218_210.out
       have hnc51 := NB210_218.out
       have hnb52 := NB218_211.out
       have hnc52 := NB211_218.out
       have hnb53 := NB218_217.out
       have hnc53 := NB217_218.out
       obtain ⟨hcz54_0, hcz54_1, hfz54_0, hfz54_1⟩ := k2_ BK218
       go_upto_region 13 with (fail)
       go_cut [61] (fun v61 wc => ∃ (kq : Nat) (x61_49 : Bool), v61 = .bool x61_49 ∧ Aside0 (value_Compare.j1 kq a0 a4 x61_49 a2_0 a2_1 a2_2 a3_0 a3_1 a3_2 t214 t215 t216 a2_0 a3_0 = some (r1, r2)) ∧ Aside0 (kq ≤ kj8) ∧ Aside0 (wc.heap[gb210]? = some (.cells #[.int .i64 a2_0, .int .u64 a2_1, .int .i64 a2_2] 24 (0, 0))) ∧ Aside0 (wc.heap[gb211]? = some (.cells #[.int .i64 a3_0, .int .u64 a3_1, .int .i64 a3_2] 24 (0, 0))) ∧ Aside0 (wc.heap[gb217]? = some (.cells #[.int .i64 t214, .int .u64 t215, .int .i64 t216] 24 (0, 0))) ∧ Aside0 (wc.heap[gb218]? = some (.cells #[.int .i64 a2_0, .int .i64 a3_0] 49 (0, 0))) ∧ Aside0 (Below w.heap.size w wc))
       case first =>
        have H := HC50.out
        clear HC50
        by_cases c55 : a0 = 1
        ·rw [if_pos c55] at H
         have c55b0 : (a0 == 1) = true := beq_iff_eq.mpr c55
         have c55b1 : (a0 != 1) = false := bne_eq_false_iff_eq.mpr c55
         clear c55
         (first | rw [c55b0] | (simp only [i64_w, i32_w]; rw [c55b0]) | skip)
         have H' := Aside0.mk H
         clear H
         go_wp2
         go_meet
         case rel => exact ⟨_, (true), (by first | rfl | (simp; done) | (simp [*]; done)), H', ⟨by have := HJ8.out; first | omega | exact Nat.le_refl _⟩, ⟨by exact bk_⟩, ⟨by exact bk_⟩, ⟨by exact bk_⟩, ⟨by exact bk_⟩, ⟨by repeat (first | (with_reducible first | exact HB.out | apply lA_ | apply lN_ | apply lD_ | refine lS_ ?_ GE210.out | refine lS_ ?_ GE211.out | refine lS_ ?_ GE217.out | refine lS_ ?_ GE218.out) | exact HB.out)⟩⟩
        ·rw [if_neg c55] at H
         have c55b0 : (a0 == 1) = false := beq_eq_false_iff_ne.mpr c55
         have c55b1 : (a0 != 1) = true := bne_iff_ne.mpr c55
         (first | rw [c55b0] | (simp only [i64_w, i32_w]; rw [c55b0]) | skip)
         have H' := Aside0.mk H
         clear H
         go_wp2
         go_meet
         case rel => exact ⟨_, ((a0 == 5)), (by first | rfl | (simp; done) | (simp [*]; done)), H', ⟨by have := HJ8.out; first | omega | exact Nat.le_refl _⟩, ⟨by exact bk_⟩, ⟨by exact bk_⟩, ⟨by exact bk_⟩, ⟨by exact bk_⟩, ⟨by repeat (first | (with_reducible first | exact HB.out | apply lA_ | apply lN_ | apply lD_ | refine lS_ ?_ GE210.out | refine lS_ ?_ GE211.out | refine lS_ ?_ GE217.out | refine lS_ ?_ GE218.out) | exact HB.out)⟩⟩
       case rest =>
        clear HC50
        try clear c1
        try clear c2
        try clear p2
        try clear c3
        try clear c4
        try clear c5
        try clear c7
        try clear c14
        try clear c15
        try clear c17
        try clear c20
        try clear c21
        try clear c22
        try clear c23
        try clear c25
        try clear c25b0
        try clear c25b1
        try clear c26
        try clear c27
        try clear c28
        try clear c30
        try clear c31
        try clear c32
        try clear c34
        try clear c35
        try clear c37
        try clear c38
        try clear c38b0
        try clear c38b1
        try clear c38b2
        try clear c40
        try clear c41
        try clear c42
        try clear c44
        try clear c45
        try clear c47
        try clear c49
        try clear c51
        try clear c52
        try clear c53
        try clear c55
        try clear c55b0
        try clear c55b1
        try clear hcz16_0
        try clear hcz16_1
        try clear hcz16_2
        try clear hcz18_0
        try clear hcz18_1
        try clear hcz18_2
        try clear hcz19_0
        try clear hcz19_1
        try clear hcz19_2
        try clear hcz24_0
        try clear hcz24_1
        try clear hcz29_0
        try clear hcz29_1
        try clear hcz29_2
        try clear hcz33_0
        try clear hcz33_1
        try clear hcz33_2
        try clear hcz36_0
        try clear hcz36_1
        try clear hcz36_2
        try clear hcz43_0
        try clear hcz43_1
        try clear hcz46_0
        try clear hcz46_1
        try clear hcz46_2
        try clear hcz48_0
        try clear hcz48_1
        try clear hcz48_2
        try clear hcz54_0
        try clear hcz54_1
        try clear hfz16_0
        try clear hfz16_1
        try clear hfz16_2
        try clear hfz18_0
        try clear hfz18_1
        try clear hfz18_2
        try clear hfz19_0
        try clear hfz19_1
        try clear hfz19_2
        try clear hfz24_0
        try clear hfz24_1
        try clear hfz29_0
        try clear hfz29_1
        try clear hfz29_2
        try clear hfz33_0
        try clear hfz33_1
        try clear hfz33_2
        try clear hfz36_0
        try clear hfz36_1
        try clear hfz36_2
        try clear hfz43_0
        try clear hfz43_1
        try clear hfz46_0
        try clear hfz46_1
        try clear hfz46_2
        try clear hfz48_0
        try clear hfz48_1
        try clear hfz48_2
        try clear hfz54_0
        try clear hfz54_1
        try clear p2
        obtain ⟨kq, x61_49, rfl, HA, HJ49, BK210, BK211, BK217, BK218, HB⟩ := hcut
        cases kq with
        | zero => exact absurd HA.out (by simp [value_Compare.j1])
        | succ kj49 =>
         have H := HA.out
         clear HA
         simp only [value_Compare.j1] at H
         by_cases c56 : x61_49 = true
         ·subst c56
          have H1 : (if a2_0 = 6 then ((value_sameNumber.f a3_0 a3_1 a3_2 t214 t215 t216).bind fun t221 => (if t221 = true then (some ((a0 == 5), 0)) else (if a3_0 = 6 then ((value_sameNumber.f a2_0 a2_1 a2_2 t214 t215 t216).bind fun t222 => (if t222 = true then (some ((a0 == 5), 0)) else (some (false, 21)))) else (some (false, 21))))) else (if a3_0 = 6 then ((value_sameNumber.f a2_0 a2_1 a2_2 t214 t215 t216).bind fun t223 => (if t223 = true then (some ((a0 == 5), 0)) else (some (false, 21)))) else (some (false, 21)))) = some (r1, r2) := by rw [if_pos rfl] at H; exact H
          clear H
          have H := H1
          clear H1
          by_cases c57 : a2_0 = 6
          ·rw [if_pos c57] at H
           have c57b0 : (a2_0 == 6) = true := beq_iff_eq.mpr c57
           have c57b1 : (a2_0 != 6) = false := bne_eq_false_iff_eq.mpr c57
           clear c57
           replace H := Option.bind_eq_some_iff.mp H
           obtain ⟨t221, A580, H⟩ := H
           replace H : (if t221 = true then (some ((a0 == 5), 0)) else (if a3_0 = 6 then ((value_sameNumber.f a2_0 a2_1 a2_2 t214 t215 t216).bind fun t222 => (if t222 = true then (some ((a0 == 5), 0)) else (some (false, 21)))) else (some (false, 21)))) = some (r1, r2) := H
           have A58 := Aside0.mk A580
           clear A580
           by_cases c59 : t221 = true
           ·subst c59
            have H1 : (some ((a0 == 5), 0)) = some (r1, r2) := by rw [if_pos rfl] at H; exact H
            clear H
            have H := H1
            clear H1
            simp only [Option.some.injEq, Prod.mk.injEq] at H
            obtain ⟨rfl, rfl⟩ := H
            have hnb60 := NB210_211.out
            have hnc60 := NB211_210.out
            have hnb61 := NB210_217.out
            have hnc61 := NB217_210.out
            have hnb62 := NB210_218.out
            have hnc62 := NB218_210.out
            obtain ⟨hcz63_0, hcz63_1, hcz63_2, hfz63_0, hfz63_1, hfz63_2⟩ := k3_ BK210
            have hnb64 := NB211_217.out
            have hnc64 := NB217_211.out
            have hnb65 := NB211_218.out
            have hnc65 := NB218_211.out
            obtain ⟨hcz66_0, hcz66_1, hcz66_2, hfz66_0, hfz66_1, hfz66_2⟩ := k3_ BK211
            have hnb67 := NB217_218.out
            have hnc67 := NB218_217.out
            obtain ⟨hcz68_0, hcz68_1, hcz68_2, hfz68_0, hfz68_1, hfz68_2⟩ := k3_ BK217
            go_wp2_with (first | (go_at_call 30; (with_reducible refine (value_sameNumber.calls a3_0 a3_1 a3_2 t214 t215 t216 true _ A58.out).mono ?_); rintro e w69 ⟨rfl, hb⟩; replace BK210 := bb_ hb BK210; replace BK211 := bb_ hb BK211; replace BK217 := bb_ hb BK217; replace BK218 := bb_ hb BK218; replace HB := bl_ hb; (try clear hb); (try clear hb2); (try clear hk); (try clear hi)))
            go_ret2
            exact ⟨vv_, bz_⟩
           ·replace c59 := Bool.eq_false_iff.mpr c59
            subst c59
            have H1 : (if a3_0 = 6 then ((value_sameNumber.f a2_0 a2_1 a2_2 t214 t215 t216).bind fun t222 => (if t222 = true then (some ((a0 == 5), 0)) else (some (false, 21)))) else (some (false, 21))) = some (r1, r2) := by rw [if_neg (show ¬ (false = true) by decide)] at H; exact H
            clear H
            have H := H1
            clear H1
            by_cases c70 : a3_0 = 6
            ·rw [if_pos c70] at H
             have c70b0 : (a3_0 == 6) = true := beq_iff_eq.mpr c70
             have c70b1 : (a3_0 != 6) = false := bne_eq_false_iff_eq.mpr c70
             clear c70
             replace H := Option.bind_eq_some_iff.mp H
             obtain ⟨t222, A710, H⟩ := H
             replace H : (if t222 = true then (some ((a0 == 5), 0)) else (some (false, 21))) = some (r1, r2) := H
             have A71 := Aside0.mk A710
             clear A710
             by_cases c72 : t222 = true
             ·subst c72
              have H1 : (some ((a0 == 5), 0)) = some (r1, r2) := by rw [if_pos rfl] at H; exact H
              clear H
              have H := H1
              clear H1
              simp only [Option.some.injEq, Prod.mk.injEq] at H
              obtain ⟨rfl, rfl⟩ := H
              have hnb73 := NB210_211.out
              have hnc73 := NB211_210.out
              have hnb74 := NB210_217.out
              have hnc74 := NB217_210.out
              have hnb75 := NB210_218.out
              have hnc75 := NB218_210.out
              obtain ⟨hcz76_0, hcz76_1, hcz76_2, hfz76_0, hfz76_1, hfz76_2⟩ := k3_ BK210
              have hnb77 := NB211_217.out
              have hnc77 := NB217_211.out
              have hnb78 := NB211_218.out
              have hnc78 := NB218_211.out
              obtain ⟨hcz79_0, hcz79_1, hcz79_2, hfz79_0, hfz79_1, hfz79_2⟩ := k3_ BK211
              have hnb80 := NB217_218.out
              have hnc80 := NB218_217.out
              obtain ⟨hcz81_0, hcz81_1, hcz81_2, hfz81_0, hfz81_1, hfz81_2⟩ := k3_ BK217
              go_wp2_with (first | (go_at_call 30; (with_reducible refine (value_sameNumber.calls a3_0 a3_1 a3_2 t214 t215 t216 false _ A58.out).mono ?_); rintro e w82 ⟨rfl, hb⟩; replace BK210 := bb_ hb BK210; replace BK211 := bb_ hb BK211; replace BK217 := bb_ hb BK217; replace BK218 := bb_ hb BK218; replace HB := bl_ hb; (try clear hb); (try clear hb2); (try clear hk); (try clear hi); obtain ⟨hcz83_0, hcz83_1, hcz83_2, hfz83_0, hfz83_1, hfz83_2⟩ := k3_ BK211; obtain ⟨hcz84_0, hcz84_1, hcz84_2, hfz84_0, hfz84_1, hfz84_2⟩ := k3_ BK210; obtain ⟨hcz85_0, hcz85_1, hcz85_2, hfz85_0, hfz85_1, hfz85_2⟩ := k3_ BK217) | (go_at_call 30; (with_reducible refine (value_sameNumber.calls a2_0 a2_1 a2_2 t214 t215 t216 true _ A71.out).mono ?_); rintro e w86 ⟨rfl, hb⟩; replace BK210 := bb_ hb BK210; replace BK211 := bb_ hb BK211; replace BK217 := bb_ hb BK217; replace BK218 := bb_ hb BK218; replace HB := bl_ hb; (try clear hb); (try clear hb2); (try clear hk); (try clear hi)))
              go_ret2
              exact ⟨vv_, bz_⟩
             ·replace c72 := Bool.eq_false_iff.mpr c72
              subst c72
              have H1 : (some (false, 21)) = some (r1, r2) := by rw [if_neg (show ¬ (false = true) by decide)] at H; exact H
              clear H
              have H := H1
              clear H1
              simp only [Option.some.injEq, Prod.mk.injEq] at H
              obtain ⟨rfl, rfl⟩ := H
              have hnb87 := NB210_211.out
              have hnc87 := NB211_210.out
              have hnb88 := NB210_217.out
              have hnc88 := NB217_210.out
              have hnb89 := NB210_218.out
              have hnc89 := NB218_210.out
              obtain ⟨hcz90_0, hcz90_1, hcz90_2, hfz90_0, hfz90_1, hfz90_2⟩ := k3_ BK210
              have hnb91 := NB211_217.out
              have hnc91 := NB217_211.out
              have hnb92 := NB211_218.out
              have hnc92 := NB218_211.out
              obtain ⟨hcz93_0, hcz93_1, hcz93_2, hfz93_0, hfz93_1, hfz93_2⟩ := k3_ BK211
              have hnb94 := NB217_218.out
              have hnc94 := NB218_217.out
              obtain ⟨hcz95_0, hcz95_1, hcz95_2, hfz95_0, hfz95_1, hfz95_2⟩ := k3_ BK217
              go_wp2_with (first | (go_at_call 30; (with_reducible refine (value_sameNumber.calls a3_0 a3_1 a3_2 t214 t215 t216 false _ A58.out).mono ?_); rintro e w96 ⟨rfl, hb⟩; replace BK210 := bb_ hb BK210; replace BK211 := bb_ hb BK211; replace BK217 := bb_ hb BK217; replace BK218 := bb_ hb BK218; replace HB := bl_ hb; (try clear hb); (try clear hb2); (try clear hk); (try clear hi); obtain ⟨hcz97_0, hcz97_1, hcz97_2, hfz97_0, hfz97_1, hfz97_2⟩ := k3_ BK211; obtain ⟨hcz98_0, hcz98_1, hcz98_2, hfz98_0, hfz98_1, hfz98_2⟩ := k3_ BK210; obtain ⟨hcz99_0, hcz99_1, hcz99_2, hfz99_0, hfz99_1, hfz99_2⟩ := k3_ BK217) | (go_at_call 30; (with_reducible refine (value_sameNumber.calls a2_0 a2_1 a2_2 t214 t215 t216 false _ A71.out).mono ?_); rintro e w100 ⟨rfl, hb⟩; replace BK210 := bb_ hb BK210; replace BK211 := bb_ hb BK211; replace BK217 := bb_ hb BK217; replace BK218 := bb_ hb BK218; replace HB := bl_ hb; (try clear hb); (try clear hb2); (try clear hk); (try clear hi)))
              go_ret2
              exact ⟨vv_, bz_⟩
            ·rw [if_neg c70] at H
             have c70b0 : (a3_0 == 6) = false := beq_eq_false_iff_ne.mpr c70
             have c70b1 : (a3_0 != 6) = true := bne_iff_ne.mpr c70
             simp only [Option.some.injEq, Prod.mk.injEq] at H
             obtain ⟨rfl, rfl⟩ := H
             have hnb101 := NB210_211.out
             have hnc101 := NB211_210.out
             have hnb102 := NB210_217.out
             have hnc102 := NB217_210.out
             have hnb103 := NB210_218.out
             have hnc103 := NB218_210.out
             obtain ⟨hcz104_0, hcz104_1, hcz104_2, hfz104_0, hfz104_1, hfz104_2⟩ := k3_ BK210
             have hnb105 := NB211_217.out
             have hnc105 := NB217_211.out
             have hnb106 := NB211_218.out
             have hnc106 := NB218_211.out
             obtain ⟨hcz107_0, hcz107_1, hcz107_2, hfz107_0, hfz107_1, hfz107_2⟩ := k3_ BK211
             have hnb108 := NB217_218.out
             have hnc108 := NB218_217.out
             obtain ⟨hcz109_0, hcz109_1, hcz109_2, hfz109_0, hfz109_1, hfz109_2⟩ := k3_ BK217
             go_wp2_with (first | (go_at_call 30; (with_reducible refine (value_sameNumber.calls a3_0 a3_1 a3_2 t214 t215 t216 false _ A58.out).mono ?_); rintro e w110 ⟨rfl, hb⟩; replace BK210 := bb_ hb BK210; replace BK211 := bb_ hb BK211; replace BK217 := bb_ hb BK217; replace BK218 := bb_ hb BK218; replace HB := bl_ hb; (try clear hb); (try clear hb2); (try clear hk); (try clear hi); obtain ⟨hcz111_0, hcz111_1, hcz111_2, hfz111_0, hfz111_1, hfz111_2⟩ := k3_ BK211))
             go_ret2
             exact ⟨vv_, bz_⟩
          ·rw [if_neg c57] at H
           have c57b0 : (a2_0 == 6) = false := beq_eq_false_iff_ne.mpr c57
           have c57b1 : (a2_0 != 6) = true := bne_iff_ne.mpr c57
           by_cases c112 : a3_0 = 6
           ·rw [if_pos c112] at H
            have c112b0 : (a3_0 == 6) = true := beq_iff_eq.mpr c112
            have c112b1 : (a3_0 != 6) = false := bne_eq_false_iff_eq.mpr c112
            clear c112
            replace H := Option.bind_eq_some_iff.mp H
            obtain ⟨t223, A1130, H⟩ := H
            replace H : (if t223 = true then (some ((a0 == 5), 0)) else (some (false, 21))) = some (r1, r2) := H
            have A113 := Aside0.mk A1130
            clear A1130
            by_cases c114 : t223 = true
            ·subst c114
             have H1 : (some ((a0 == 5), 0)) = some (r1, r2) := by rw [if_pos rfl] at H; exact H
             clear H
             have H := H1
             clear H1
             simp only [Option.some.injEq, Prod.mk.injEq] at H
             obtain ⟨rfl, rfl⟩ := H
             have hnb115 := NB210_211.out
             have hnc115 := NB211_210.out
             have hnb116 := NB210_217.out
             have hnc116 := NB217_210.out
             have hnb117 := NB210_218.out
             have hnc117 := NB218_210.out
             obtain ⟨hcz118_0, hcz118_1, hcz118_2, hfz118_0, hfz118_1, hfz118_2⟩ := k3_ BK210
             have hnb119 := NB211_217.out
             have hnc119 := NB217_211.out
             have hnb120 := NB211_218.out
             have hnc120 := NB218_211.out
             obtain ⟨hcz121_0, hcz121_1, hcz121_2, hfz121_0, hfz121_1, hfz121_2⟩ := k3_ BK211
             have hnb122 := NB217_218.out
             have hnc122 := NB218_217.out
             obtain ⟨hcz123_0, hcz123_1, hcz123_2, hfz123_0, hfz123_1, hfz123_2⟩ := k3_ BK217
             go_wp2_with (first | (go_at_call 30; (with_reducible refine (value_sameNumber.calls a2_0 a2_1 a2_2 t214 t215 t216 true _ A113.out).mono ?_); rintro e w124 ⟨rfl, hb⟩; replace BK210 := bb_ hb BK210; replace BK211 := bb_ hb BK211; replace BK217 := bb_ hb BK217; replace BK218 := bb_ hb BK218; replace HB := bl_ hb; (try clear hb); (try clear hb2); (try clear hk); (try clear hi)))
             go_ret2
             exact ⟨vv_, bz_⟩
            ·replace c114 := Bool.eq_false_iff.mpr c114
             subst c114
             have H1 : (some (false, 21)) = some (r1, r2) := by rw [if_neg (show ¬ (false = true) by decide)] at H; exact H
             clear H
             have H := H1
             clear H1
             simp only [Option.some.injEq, Prod.mk.injEq] at H
             obtain ⟨rfl, rfl⟩ := H
             have hnb125 := NB210_211.out
             have hnc125 := NB211_210.out
             have hnb126 := NB210_217.out
             have hnc126 := NB217_210.out
             have hnb127 := NB210_218.out
             have hnc127 := NB218_210.out
             obtain ⟨hcz128_0, hcz128_1, hcz128_2, hfz128_0, hfz128_1, hfz128_2⟩ := k3_ BK210
             have hnb129 := NB211_217.out
             have hnc129 := NB217_211.out
             have hnb130 := NB211_218.out
             have hnc130 := NB218_211.out
             obtain ⟨hcz131_0, hcz131_1, hcz131_2, hfz131_0, hfz131_1, hfz131_2⟩ := k3_ BK211
             have hnb132 := NB217_218.out
             have hnc132 := NB218_217.out
             obtain ⟨hcz133_0, hcz133_1, hcz133_2, hfz133_0, hfz133_1, hfz133_2⟩ := k3_ BK217
             go_wp2_with (first | (go_at_call 30; (with_reducible refine (value_sameNumber.calls a2_0 a2_1 a2_2 t214 t215 t216 false _ A113.out).mono ?_); rintro e w134 ⟨rfl, hb⟩; replace BK210 := bb_ hb BK210; replace BK211 := bb_ hb BK211; replace BK217 := bb_ hb BK217; replace BK218 := bb_ hb BK218; replace HB := bl_ hb; (try clear hb); (try clear hb2); (try clear hk); (try clear hi)))
             go_ret2
             exact ⟨vv_, bz_⟩
           ·rw [if_neg c112] at H
            have c112b0 : (a3_0 == 6) = false := beq_eq_false_iff_ne.mpr c112
            have c112b1 : (a3_0 != 6) = true := bne_iff_ne.mpr c112
            simp only [Option.some.injEq, Prod.mk.injEq] at H
            obtain ⟨rfl, rfl⟩ := H
            have hnb135 := NB210_211.out
            have hnc135 := NB211_210.out
            have hnb136 := NB210_217.out
            have hnc136 := NB217_210.out
            have hnb137 := NB210_218.out
            have hnc137 := NB218_210.out
            obtain ⟨hcz138_0, hcz138_1, hcz138_2, hfz138_0, hfz138_1, hfz138_2⟩ := k3_ BK210
            have hnb139 := NB211_217.out
            have hnc139 := NB217_211.out
            have hnb140 := NB211_218.out
            have hnc140 := NB218_211.out
            obtain ⟨hcz141_0, hcz141_1, hcz141_2, hfz141_0, hfz141_1, hfz141_2⟩ := k3_ BK211
            go_wp2
            go_ret2
            exact ⟨vv_, bz_⟩
         ·replace c56 := Bool.eq_false_iff.mpr c56
          subst c56
          have H1 : (if (a2_0 == 2 && (a3_0 == 3)) = true then ((value_ordered.f a0 (wrap64 (a2_1)) a4).bind fun bt224 => (if bt224.2 = true then (some (bt224.1, 0)) else (some (false, 21)))) else (if (a2_0 == 3 && (a3_0 == 2)) = true then ((value_ordered.f a0 a4 (wrap64 (a3_1))).bind fun bt226 => (if bt226.2 = true then (some (bt226.1, 0)) else (some (false, 21)))) else (some (false, 21)))) = some (r1, r2) := by rw [if_neg (show ¬ (false = true) by decide)] at H; exact H
          clear H
          have H := H1
          clear H1
          by_cases c142 : (a2_0 == 2 && (a3_0 == 3)) = true
          ·rw [if_pos c142] at H
           have c142b0 : (a2_0 == 2 && (a3_0 == 3)) = true := c142
           (try (have c142b1 : decide (a2_0 = 2 && (a3_0 == 3)) = true := by simpa using c142))
           (try (have c142b2 : (a2_0 == 2 && (a3_0 == 3)) = true := by simpa using c142))
           clear c142
           replace H := Option.bind_eq_some_iff.mp H
           obtain ⟨⟨t224, t225⟩, A1430, H⟩ := H
           replace H : (if t225 = true then (some (t224, 0)) else (some (false, 21))) = some (r1, r2) := H
           have A143 := Aside0.mk A1430
           clear A1430
           by_cases c144 : t225 = true
           ·subst c144
            have H1 : (some (t224, 0)) = some (r1, r2) := by rw [if_pos rfl] at H; exact H
            clear H
            have H := H1
            clear H1
            simp only [Option.some.injEq, Prod.mk.injEq] at H
            obtain ⟨rfl, rfl⟩ := H
            have hnb145 := NB218_210.out
            have hnc145 := NB210_218.out
            have hnb146 := NB218_211.out
            have hnc146 := NB211_218.out
            have hnb147 := NB218_217.out
            have hnc147 := NB217_218.out
            obtain ⟨hcz148_0, hcz148_1, hfz148_0, hfz148_1⟩ := k2_ BK218
            have hnb149 := NB210_211.out
            have hnc149 := NB211_210.out
            have hnb150 := NB210_217.out
            have hnc150 := NB217_210.out
            obtain ⟨hcz151_0, hcz151_1, hcz151_2, hfz151_0, hfz151_1, hfz151_2⟩ := k3_ BK210
            go_wp2_with (first | ((with_reducible refine gate_callee (f := 31) rfl ?_); refine gM_ 98 Try.func31 (value_ordered.calls a0 (wrap64 (a2_1)) a4 t224 true _ A143.out) ?_; rintro w' ⟨nd, rfl⟩))
            go_ret2
            exact ⟨vv_, bz_⟩
           ·replace c144 := Bool.eq_false_iff.mpr c144
            subst c144
            have H1 : (some (false, 21)) = some (r1, r2) := by rw [if_neg (show ¬ (false = true) by decide)] at H; exact H
            clear H
            have H := H1
            clear H1
            simp only [Option.some.injEq, Prod.mk.injEq] at H
            obtain ⟨rfl, rfl⟩ := H
            have hnb152 := NB218_210.out
            have hnc152 := NB210_218.out
            have hnb153 := NB218_211.out
            have hnc153 := NB211_218.out
            have hnb154 := NB218_217.out
            have hnc154 := NB217_218.out
            obtain ⟨hcz155_0, hcz155_1, hfz155_0, hfz155_1⟩ := k2_ BK218
            have hnb156 := NB210_211.out
            have hnc156 := NB211_210.out
            have hnb157 := NB210_217.out
            have hnc157 := NB217_210.out
            obtain ⟨hcz158_0, hcz158_1, hcz158_2, hfz158_0, hfz158_1, hfz158_2⟩ := k3_ BK210
            go_wp2_with (first | ((with_reducible refine gate_callee (f := 31) rfl ?_); refine gM_ 98 Try.func31 (value_ordered.calls a0 (wrap64 (a2_1)) a4 t224 false _ A143.out) ?_; rintro w' ⟨nd, rfl⟩))
            go_ret2
            exact ⟨vv_, bz_⟩
          ·rw [if_neg c142] at H
           have c142b0 : (a2_0 == 2 && (a3_0 == 3)) = false := by simpa using c142
           (try (have c142b1 : decide (a2_0 = 2 && (a3_0 == 3)) = false := by simpa using c142))
           (try (have c142b2 : (a2_0 == 2 && (a3_0 == 3)) = false := by simpa using c142))
           (try (have c142b3 : ¬ (a2_0 = 2 && (a3_0 == 3)) := by simpa using c142))
           clear c142
           by_cases c159 : (a2_0 == 3 && (a3_0 == 2)) = true
           ·rw [if_pos c159] at H
            have c159b0 : (a2_0 == 3 && (a3_0 == 2)) = true := c159
            (try (have c159b1 : decide (a2_0 = 3 && (a3_0 == 2)) = true := by simpa using c159))
            (try (have c159b2 : (a2_0 == 3 && (a3_0 == 2)) = true := by simpa using c159))
            clear c159
            replace H := Option.bind_eq_some_iff.mp H
            obtain ⟨⟨t226, t227⟩, A1600, H⟩ := H
            replace H : (if t227 = true then (some (t226, 0)) else (some (false, 21))) = some (r1, r2) := H
            have A160 := Aside0.mk A1600
            clear A1600
            by_cases c161 : t227 = true
            ·subst c161
             have H1 : (some (t226, 0)) = some (r1, r2) := by rw [if_pos rfl] at H; exact H
             clear H
             have H := H1
             clear H1
             simp only [Option.some.injEq, Prod.mk.injEq] at H
             obtain ⟨rfl, rfl⟩ := H
             have hnb162 := NB218_210.out
             have hnc162 := NB210_218.out
             have hnb163 := NB218_211.out
             have hnc163 := NB211_218.out
             have hnb164 := NB218_217.out
             have hnc164 := NB217_218.out
             obtain ⟨hcz165_0, hcz165_1, hfz165_0, hfz165_1⟩ := k2_ BK218
             have hnb166 := NB211_210.out
             have hnc166 := NB210_211.out
             have hnb167 := NB211_217.out
             have hnc167 := NB217_211.out
             obtain ⟨hcz168_0, hcz168_1, hcz168_2, hfz168_0, hfz168_1, hfz168_2⟩ := k3_ BK211
             go_wp2_with (first | ((with_reducible refine gate_callee (f := 31) rfl ?_); refine gM_ 110 Try.func31 (value_ordered.calls a0 a4 (wrap64 (a3_1)) t226 true _ A160.out) ?_; rintro w' ⟨nd, rfl⟩))
             go_ret2
             exact ⟨vv_, bz_⟩
            ·replace c161 := Bool.eq_false_iff.mpr c161
             subst c161
             have H1 : (some (false, 21)) = some (r1, r2) := by rw [if_neg (show ¬ (false = true) by decide)] at H; exact H
             clear H
             have H := H1
             clear H1
             simp only [Option.some.injEq, Prod.mk.injEq] at H
             obtain ⟨rfl, rfl⟩ := H
             have hnb169 := NB218_210.out
             have hnc169 := NB210_218.out
             have hnb170 := NB218_211.out
             have hnc170 := NB211_218.out
             have hnb171 := NB218_217.out
             have hnc171 := NB217_218.out
             obtain ⟨hcz172_0, hcz172_1, hfz172_0, hfz172_1⟩ := k2_ BK218
             have hnb173 := NB211_210.out
             have hnc173 := NB210_211.out
             have hnb174 := NB211_217.out
             have hnc174 := NB217_211.out
             obtain ⟨hcz175_0, hcz175_1, hcz175_2, hfz175_0, hfz175_1, hfz175_2⟩ := k3_ BK211
             go_wp2_with (first | ((with_reducible refine gate_callee (f := 31) rfl ?_); refine gM_ 110 Try.func31 (value_ordered.calls a0 a4 (wrap64 (a3_1)) t226 false _ A160.out) ?_; rintro w' ⟨nd, rfl⟩))
             go_ret2
             exact ⟨vv_, bz_⟩
           ·rw [if_neg c159] at H
            have c159b0 : (a2_0 == 3 && (a3_0 == 2)) = false := by simpa using c159
            (try (have c159b1 : decide (a2_0 = 3 && (a3_0 == 2)) = false := by simpa using c159))
            (try (have c159b2 : (a2_0 == 3 && (a3_0 == 2)) = false := by simpa using c159))
            (try (have c159b3 : ¬ (a2_0 = 3 && (a3_0 == 2)) := by simpa using c159))
            clear c159
            simp only [Option.some.injEq, Prod.mk.injEq] at H
            obtain ⟨rfl, rfl⟩ := H
            have hnb176 := NB218_210.out
            have hnc176 := NB210_218.out
            have hnb177 := NB218_211.out
            have hnc177 := NB211_218.out
            have hnb178 := NB218_217.out
            have hnc178 := NB217_218.out
            obtain ⟨hcz179_0, hcz179_1, hfz179_0, hfz179_1⟩ := k2_ BK218
            go_wp2
            go_ret2
            exact ⟨vv_, bz_⟩
      ·replace c49 := Bool.eq_false_iff.mpr c49
       subst c49
       have H1 : (some (false, 21)) = some (r1, r2) := by rw [if_neg (show ¬ (false = true) by decide)] at H; exact H
       clear H
       have H := H1
       clear H1
       simp only [Option.some.injEq, Prod.mk.injEq] at H
       obtain ⟨rfl, rfl⟩ := H
       have hnb180 := NB218_210.out
       have hnc180 := NB210_218.out
       have hnb181 := NB218_211.out
       have hnc181 := NB211_218.out
       have hnb182 := NB218_217.out
       have hnc182 := NB217_218.out
       obtain ⟨hcz183_0, hcz183_1, hfz183_0, hfz183_1⟩ := k2_ BK218
       go_wp2
       go_ret2
       exact ⟨vv_, bz_⟩
 ·replace c7 := Bool.eq_false_iff.mpr c7
  subst c7
  have H1 : (some (false, 4)) = some (r1, r2) := by rw [if_neg (show ¬ (false = true) by decide)] at H; exact H
  clear H
  have H := H1
  clear H1
  simp only [Option.some.injEq, Prod.mk.injEq] at H
  obtain ⟨rfl, rfl⟩ := H
  go_enter Try.func20, Try.ntmps20
  go_wp2_with (first | ((with_reducible refine gate_dst (N := 7) rfl ?_); refine bx_ 7 #[.int .i64 a2_0, .int .u64 a2_1, .int .i64 a2_2] 24 ?_; intro gb210 hg w184 BK210 hb; have GW210 := bg_ hg; have GE210 := GW210; replace HB := bl_ hb; clear hb hg) | ((with_reducible refine gate_dst (N := 8) rfl ?_); refine bx_ 8 #[.int .i64 a3_0, .int .u64 a3_1, .int .i64 a3_2] 24 ?_; intro gb211 hg w185 BK211 hb; have GW211 := bg_ hg; have GE211 := GW211; have NB210_211 := bm_ hg BK210; have NB211_210 := bn_ hg BK210; replace BK210 := bb_ hb BK210; replace HB := bl_ hb; clear hb hg) | ((with_reducible refine gate_callee (f := 25) rfl ?_); refine gM_ 23 Try.func25 (word_Jump.calls k a0 a1 0 0 t212 false _ A6.out) ?_; rintro w' ⟨nd, rfl⟩))
  go_ret2
  exact ⟨vv_, bz_⟩

end Go.Proofs.Ytnpbhippkcikoaa.PA
