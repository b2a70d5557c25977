-- PRINTED by print.py (a twelfth state) out of the translation. Not trusted: Lean checks it.
import Derived.Test.YtnpbhippkcikoaaPA0
import Derived.Test.YtnpbhippkcikoaaSq
import Derived.Test.YtnpbhippkcikoaaPA2
import Derived.Test.YtnpbhippkcikoaaPA3
import Derived.Test.YtnpbhippkcikoaaPA8
namespace Go.Proofs.Ytnpbhippkcikoaa.PA
open Go.RowKit Go.Proofs.YtnpbhippkcikoaaW.PrintWords Go.Proofs.YtnpbhippkcikoaaW.PrintLast Go.Proofs.YtnpbhippkcikoaaW.PrintMore
attribute [local go_sem] max2_int min2_int max_two min_two max_three min_three max_four min_four   -- for this text's walks alone
set_option linter.unusedVariables false
set_option linter.unusedSimpArgs false

attribute [local go_sem high] eqA49
/-! ### value_Compare: function 20 -/
mutual
def value_Compare.j0 : Nat → Int → Bool → Int → Bool → Int → Int → Int → Int → Int → Int → Int → Int → Int → Int → Int → Option (Bool × Int)
 | 0, _, _, _, _, _, _, _, _, _, _, _, _, _, _, _ => none
 | k + 1, x0, x1, x4, x34, x211000, x211001, x211002, x212000, x212001, x212002, x218000, x218001, x218002, x219000, x219001 => if x34 = true then (some (false, 20)) else (if (x219000 == 1 && (x219001 == 1)) = true then ((word_Jump.f k x0 x1 x211001 x212001).bind fun bt219 => (some (bt219.1, 0))) else (if x1 = true then (if x0 = 1 then (value_Compare.j1 k x0 x4 true x211000 x211001 x211002 x212000 x212001 x212002 x218000 x218001 x218002 x219000 x219001) else (value_Compare.j1 k x0 x4 (x0 == 5) x211000 x211001 x211002 x212000 x212001 x212002 x218000 x218001 x218002 x219000 x219001)) else (some (false, 21))))
def value_Compare.j1 : Nat → Int → Int → Bool → Int → Int → Int → Int → Int → Int → Int → Int → Int → Int → Int → Option (Bool × Int)
 | 0, _, _, _, _, _, _, _, _, _, _, _, _, _, _ => none
 | k + 1, x0, x4, x61, x211000, x211001, x211002, x212000, x212001, x212002, x218000, x218001, x218002, x219000, x219001 => if x61 = true then (if x211000 = 6 then ((value_sameNumber.f x212000 x212001 x212002 x218000 x218001 x218002).bind fun t221 => (if t221 = true then (some ((x0 == 5), 0)) else (if x212000 = 6 then ((value_sameNumber.f x211000 x211001 x211002 x218000 x218001 x218002).bind fun t222 => (if t222 = true then (some ((x0 == 5), 0)) else (some (false, 21)))) else (some (false, 21))))) else (if x212000 = 6 then ((value_sameNumber.f x211000 x211001 x211002 x218000 x218001 x218002).bind fun t223 => (if t223 = true then (some ((x0 == 5), 0)) else (some (false, 21)))) else (some (false, 21)))) else (if (x219000 == 2 && (x219001 == 3)) = true then ((value_ordered.f x0 (wrap64 (x211001)) x4).bind fun bt224 => (if bt224.2 = true then (some (bt224.1, 0)) else (some (false, 21)))) else (if (x219000 == 3 && (x219001 == 2)) = true then ((value_ordered.f x0 x4 (wrap64 (x212001))).bind fun bt226 => (if bt226.2 = true then (some (bt226.1, 0)) else (some (false, 21)))) else (some (false, 21))))
end
def value_Compare.f (k : Nat) (a0 : Int) (a1 : Bool) (a2_0 : Int) (a2_1 : Int) (a2_2 : Int) (a3_0 : Int) (a3_1 : Int) (a3_2 : Int) (a4 : Int) : Option (Bool × Int) := (word_Jump.f k a0 a1 0 0).bind fun bt212 => (if bt212.2 = true then ((value_Num.f 0).bind fun bt214 => (if a2_0 = 0 then (value_Compare.j0 k a0 a1 a4 true a2_0 a2_1 a2_2 a3_0 a3_1 a3_2 bt214.1 bt214.2.1 bt214.2.2 a2_0 a3_0) else (value_Compare.j0 k a0 a1 a4 (a3_0 == 0) a2_0 a2_1 a2_2 a3_0 a3_1 a3_2 bt214.1 bt214.2.1 bt214.2.2 a2_0 a3_0))) else (some (false, 4)))
theorem value_Compare.mono_l : ∀ k, (∀ y0 y1 y2 y3 y4 y5 y6 y7 y8 y9 y10 y11 y12 y13 y14, LeO (value_Compare.j0 k y0 y1 y2 y3 y4 y5 y6 y7 y8 y9 y10 y11 y12 y13 y14) (value_Compare.j0 (k + 1) y0 y1 y2 y3 y4 y5 y6 y7 y8 y9 y10 y11 y12 y13 y14)) ∧ (∀ y0 y1 y2 y3 y4 y5 y6 y7 y8 y9 y10 y11 y12 y13, LeO (value_Compare.j1 k y0 y1 y2 y3 y4 y5 y6 y7 y8 y9 y10 y11 y12 y13) (value_Compare.j1 (k + 1) y0 y1 y2 y3 y4 y5 y6 y7 y8 y9 y10 y11 y12 y13))
 | 0 => ⟨fun _ _ _ _ _ _ _ _ _ _ _ _ _ _ _ r h => by simp [value_Compare.j0] at h, fun _ _ _ _ _ _ _ _ _ _ _ _ _ _ r h => by simp [value_Compare.j1] at h⟩
 | k + 1 => by
  obtain ⟨ih0, ih1⟩ := value_Compare.mono_l k
  refine ⟨?_, ?_⟩
  ·intro y0 y1 y2 y3 y4 y5 y6 y7 y8 y9 y10 y11 y12 y13 y14
   unfold value_Compare.j0
   repeat' first
   | (with_reducible exact ih0 _ _ _ _ _ _ _ _ _ _ _ _ _ _ _)
   | (with_reducible exact ih1 _ _ _ _ _ _ _ _ _ _ _ _ _ _)
   | (with_reducible exact word_Jump.mono _ _ _ _ _)
   | (with_reducible exact LeO.refl _)
   | (with_reducible exact LeO.none _)
   | (with_reducible refine LeO.ite ?_ ?_)
   | (with_reducible refine LeO.bind ?_ (fun _ => ?_))
   | exact ih0 _ _ _ _ _ _ _ _ _ _ _ _ _ _ _
   | exact ih1 _ _ _ _ _ _ _ _ _ _ _ _ _ _
   | exact word_Jump.mono _ _ _ _ _
   | exact LeO.none _
   | refine LeO.ite ?_ ?_
   | refine LeO.bind ?_ (fun _ => ?_)
  ·intro y0 y1 y2 y3 y4 y5 y6 y7 y8 y9 y10 y11 y12 y13
   unfold value_Compare.j1
   repeat' first
   | (with_reducible exact ih0 _ _ _ _ _ _ _ _ _ _ _ _ _ _ _)
   | (with_reducible exact ih1 _ _ _ _ _ _ _ _ _ _ _ _ _ _)
   | (with_reducible exact word_Jump.mono _ _ _ _ _)
   | (with_reducible exact LeO.refl _)
   | (with_reducible exact LeO.none _)
   | (with_reducible refine LeO.ite ?_ ?_)
   | (with_reducible refine LeO.bind ?_ (fun _ => ?_))
   | exact ih0 _ _ _ _ _ _ _ _ _ _ _ _ _ _ _
   | exact ih1 _ _ _ _ _ _ _ _ _ _ _ _ _ _
   | exact word_Jump.mono _ _ _ _ _
   | exact LeO.none _
   | refine LeO.ite ?_ ?_
   | refine LeO.bind ?_ (fun _ => ?_)
theorem value_Compare.mono : ∀ a0 a1 a2 a3 a4 a5 a6 a7 a8 k, LeO (value_Compare.f k a0 a1 a2 a3 a4 a5 a6 a7 a8) (value_Compare.f (k + 1) a0 a1 a2 a3 a4 a5 a6 a7 a8) := by
 intro a0 a1 a2 a3 a4 a5 a6 a7 a8 k
 obtain ⟨ih0, ih1⟩ := value_Compare.mono_l k
 unfold value_Compare.f
 repeat' first
  | (with_reducible exact ih0 _ _ _ _ _ _ _ _ _ _ _ _ _ _ _)
  | (with_reducible exact ih1 _ _ _ _ _ _ _ _ _ _ _ _ _ _)
  | (with_reducible exact word_Jump.mono _ _ _ _ _)
  | (with_reducible exact LeO.refl _)
  | (with_reducible exact LeO.none _)
  | (with_reducible refine LeO.ite ?_ ?_)
  | (with_reducible refine LeO.bind ?_ (fun _ => ?_))
  | exact ih0 _ _ _ _ _ _ _ _ _ _ _ _ _ _ _
  | exact ih1 _ _ _ _ _ _ _ _ _ _ _ _ _ _
  | exact word_Jump.mono _ _ _ _ _
  | exact LeO.none _
  | refine LeO.ite ?_ ?_
  | refine LeO.bind ?_ (fun _ => ?_)
set_option maxHeartbeats 8000000 in
set_option maxRecDepth 100000 in
theorem value_Compare.calls (k : Nat) (a0 : Int) (a1 : Bool) (a2_0 : Int) (a2_1 : Int) (a2_2 : Int) (a3_0 : Int) (a3_1 : Int) (a3_2 : Int) (a4 : Int) (r1 : Bool) (r2 : Int) (w : World) (h : value_Compare.f k a0 a1 a2_0 a2_1 a2_2 a3_0 a3_1 a3_2 a4 = some (r1, r2)) :
 Calls Try.prog 20 #[.int .i64 a0, .bool a1, .agg #[.int .i64 a2_0, .int .u64 a2_1, .int .i64 a2_2], .agg #[.int .i64 a3_0, .int .u64 a3_1, .int .i64 a3_2], .int .i64 a4] w fun e w' => e = .returned (.tuple #[.bool r1, .int .i64 r2]) ∧ Below w.heap.size w w' := by
 have hu24 := Try.underlying24
 have hu49 := Try.underlying49
 have HB := Aside0.mk (Below.refl w.heap.size w)
 have H : ((word_Jump.f k a0 a1 0 0).bind fun bt212 => (if bt212.2 = true then ((value_Num.f 0).bind fun bt214 => (if a2_0 = 0 then (value_Compare.j0 k a0 a1 a4 true a2_0 a2_1 a2_2 a3_0 a3_1 a3_2 bt214.1 bt214.2.1 bt214.2.2 a2_0 a3_0) else (value_Compare.j0 k a0 a1 a4 (a3_0 == 0) a2_0 a2_1 a2_2 a3_0 a3_1 a3_2 bt214.1 bt214.2.1 bt214.2.2 a2_0 a3_0))) else (some (false, 4)))) = some (r1, r2) := h
 clear h
 replace H := Option.bind_eq_some_iff.mp H
 obtain ⟨⟨t212, t213⟩, A60, H⟩ := H
 replace H : (if t213 = true then ((value_Num.f 0).bind fun bt214 => (if a2_0 = 0 then (value_Compare.j0 k a0 a1 a4 true a2_0 a2_1 a2_2 a3_0 a3_1 a3_2 bt214.1 bt214.2.1 bt214.2.2 a2_0 a3_0) else (value_Compare.j0 k a0 a1 a4 (a3_0 == 0) a2_0 a2_1 a2_2 a3_0 a3_1 a3_2 bt214.1 bt214.2.1 bt214.2.2 a2_0 a3_0))) else (some (false, 4))) = some (r1, r2) := H
 have A6 := Aside0.mk A60
 clear A60
 by_cases c7 : t213 = true
 ·subst c7
  have H1 : ((value_Num.f 0).bind fun bt214 => (if a2_0 = 0 then (value_Compare.j0 k a0 a1 a4 true a2_0 a2_1 a2_2 a3_0 a3_1 a3_2 bt214.1 bt214.2.1 bt214.2.2 a2_0 a3_0) else (value_Compare.j0 k a0 a1 a4 (a3_0 == 0) a2_0 a2_1 a2_2 a3_0 a3_1 a3_2 bt214.1 bt214.2.1 bt214.2.2 a2_0 a3_0))) = some (r1, r2) := by rw [if_pos rfl] at H; exact H
  clear H
  have H := H1
  clear H1
  replace H := Option.bind_eq_some_iff.mp H
  obtain ⟨⟨t214, t215, t216⟩, A80, H⟩ := H
  replace H : (if a2_0 = 0 then (value_Compare.j0 k a0 a1 a4 true a2_0 a2_1 a2_2 a3_0 a3_1 a3_2 t214 t215 t216 a2_0 a3_0) else (value_Compare.j0 k a0 a1 a4 (a3_0 == 0) a2_0 a2_1 a2_2 a3_0 a3_1 a3_2 t214 t215 t216 a2_0 a3_0)) = some (r1, r2) := H
  have A8 := Aside0.mk A80
  clear A80
  have HC9 := Aside0.mk H
  clear H
  go_enter Try.func20, Try.ntmps20
  go_upto_region 6 with (first | ((with_reducible refine gate_dst (N := 7) rfl ?_); refine bx_ 7 #[.int .i64 a2_0, .int .u64 a2_1, .int .i64 a2_2] 24 ?_; intro gb210 hg w10 BK210 hb; have GW210 := bg_ hg; have GE210 := GW210; replace HB := bl_ hb; clear hb hg) | ((with_reducible refine gate_dst (N := 8) rfl ?_); refine bx_ 8 #[.int .i64 a3_0, .int .u64 a3_1, .int .i64 a3_2] 24 ?_; intro gb211 hg w11 BK211 hb; have GW211 := bg_ hg; have GE211 := GW211; have NB210_211 := bm_ hg BK210; have NB211_210 := bn_ hg BK210; replace BK210 := bb_ hb BK210; replace HB := bl_ hb; clear hb hg) | ((with_reducible refine gate_callee (f := 25) rfl ?_); refine gM_ 23 Try.func25 (word_Jump.calls k a0 a1 0 0 t212 true _ A6.out) ?_; rintro w' ⟨nd, rfl⟩; (try (rw [drewN_self w11]; generalize hq_ : World.drewN w11 _ = w11; have n0_ : Aside0 (w11.heap[gb210]? = some (.cells #[.int .i64 a2_0, .int .u64 a2_1, .int .i64 a2_2] 24 (0, 0))) := ⟨by rw [← hq_]; exact bk_⟩; have n1_ : Aside0 (w11.heap[gb211]? = some (.cells #[.int .i64 a3_0, .int .u64 a3_1, .int .i64 a3_2] 24 (0, 0))) := ⟨by rw [← hq_]; exact bk_⟩; have n2_ : Aside0 (Below w.heap.size w w11) := ⟨by rw [← hq_]; exact bz_⟩; clear BK210 BK211 HB hq_; have BK210 := n0_; have BK211 := n1_; have HB := n2_; clear n0_ n1_ n2_)); obtain ⟨ycgb210_0, ycgb210_1, ycgb210_2, yfgb210_0, yfgb210_1, yfgb210_2⟩ := k3_ BK210; obtain ⟨ycgb211_0, ycgb211_1, ycgb211_2, yfgb211_0, yfgb211_1, yfgb211_2⟩ := k3_ BK211) | ((with_reducible refine gate_callee (f := 15) rfl ?_); refine gM_ 28 Try.func15 (value_Num.calls 0 t214 t215 t216 _ A8.out) ?_; intro w12 hb; replace BK210 := bb_ hb BK210; replace BK211 := bb_ hb BK211; replace HB := bl_ hb; (try clear hb); (try clear hb2); (try clear hk); (try clear hi)) | ((with_reducible refine gate_dst (N := 14) rfl ?_); refine bx_ 14 #[.int .i64 0, .int .u64 0, .int .i64 0] 24 ?_; intro gb217 hg w13 BK217 hb; have GW217 := bg_ hg; have GE217 := GW217; have NB210_217 := bm_ hg BK210; have NB217_210 := bn_ hg BK210; have NB211_217 := bm_ hg BK211; have NB217_211 := bn_ hg BK211; replace BK210 := bb_ hb BK210; replace BK211 := bb_ hb BK211; replace HB := bl_ hb; clear hb hg; have hnb14 := NB217_210.out; have hnc14 := NB210_217.out; have hnb15 := NB217_211.out; have hnc15 := NB211_217.out; obtain ⟨zc16_0, zc16_1, zc16_2, zf16_0, zf16_1, zf16_2⟩ := k3_ BK217; have hnb17 := NB210_211.out; have hnc17 := NB211_210.out; obtain ⟨zc18_0, zc18_1, zc18_2, zf18_0, zf18_1, zf18_2⟩ := k3_ BK210; obtain ⟨zc19_0, zc19_1, zc19_2, zf19_0, zf19_1, zf19_2⟩ := k3_ BK211) | ((with_reducible refine gate_dst (N := 15) rfl ?_); refine box_event ?hg (N := 15) ?hd (cs := #[.int .i64 0, .int .i64 0]) (t := 49) ?hr ?_; (case hd => rfl); (case hg => rfl); (case hr => first | (go_simp; done) | (go_simp; rfl)); intro gb218 hg w20 hbox hb; have n0_ := Aside0.mk (blk_below (g := gb210) (o := .cells #[.int .i64 a2_0, .int .u64 a2_1, .int .i64 a2_2] 24 (0, 0)) (by (with_reducible repeat (first | apply bN_ | apply bD_ | apply bA_)); refine blk_far ?_ NB210_217.out _; (with_reducible repeat (first | apply bN_ | apply bD_ | apply bA_)); refine blk_far ?_ NB210_217.out _; (with_reducible repeat (first | apply bN_ | apply bD_ | apply bA_)); refine blk_far ?_ NB210_217.out _; exact bk_) hb); have n1_ := Aside0.mk (blk_below (g := gb211) (o := .cells #[.int .i64 a3_0, .int .u64 a3_1, .int .i64 a3_2] 24 (0, 0)) (by (with_reducible repeat (first | apply bN_ | apply bD_ | apply bA_)); refine blk_far ?_ NB211_217.out _; (with_reducible repeat (first | apply bN_ | apply bD_ | apply bA_)); refine blk_far ?_ NB211_217.out _; (with_reducible repeat (first | apply bN_ | apply bD_ | apply bA_)); refine blk_far ?_ NB211_217.out _; exact bk_) hb); have n2_ := Aside0.mk (blk_below (g := gb217) (o := .cells #[.int .i64 t214, .int .u64 t215, .int .i64 t216] 24 (0, 0)) (by (with_reducible repeat (first | apply bN_ | apply bD_ | apply bA_)); refine blk_put (cs := #[.int .i64 t214, .int .u64 t215, .int .i64 0]) ?_ 2 _ rfl; (with_reducible repeat (first | apply bN_ | apply bD_ | apply bA_)); refine blk_put (cs := #[.int .i64 t214, .int .u64 0, .int .i64 0]) ?_ 1 _ rfl; (with_reducible repeat (first | apply bN_ | apply bD_ | apply bA_)); refine blk_put (cs := #[.int .i64 0, .int .u64 0, .int .i64 0]) ?_ 0 _ rfl; exact bk_) hb); have n3_ := bl_ hb; have n4_ := Aside0.mk (hbox); have n5_ := bg_ hg; have n6_ := bg_ hg; have n7_ := Aside0.mk ((by rw [hg]; exact Nat.ne_of_lt (blk_lt (g := gb210) (o := .cells #[.int .i64 a2_0, .int .u64 a2_1, .int .i64 a2_2] 24 (0, 0)) (by (with_reducible repeat (first | apply bN_ | apply bD_ | apply bA_)); refine blk_far ?_ NB210_217.out _; (with_reducible repeat (first | apply bN_ | apply bD_ | apply bA_)); refine blk_far ?_ NB210_217.out _; (with_reducible repeat (first | apply bN_ | apply bD_ | apply bA_)); refine blk_far ?_ NB210_217.out _; exact bk_)) : gb210 ≠ gb218)); have n8_ := Aside0.mk ((by rw [hg]; exact Nat.ne_of_gt (blk_lt (g := gb210) (o := .cells #[.int .i64 a2_0, .int .u64 a2_1, .int .i64 a2_2] 24 (0, 0)) (by (with_reducible repeat (first | apply bN_ | apply bD_ | apply bA_)); refine blk_far ?_ NB210_217.out _; (with_reducible repeat (first | apply bN_ | apply bD_ | apply bA_)); refine blk_far ?_ NB210_217.out _; (with_reducible repeat (first | apply bN_ | apply bD_ | apply bA_)); refine blk_far ?_ NB210_217.out _; exact bk_)) : gb218 ≠ gb210)); have n9_ := Aside0.mk ((by rw [hg]; exact Nat.ne_of_lt (blk_lt (g := gb211) (o := .cells #[.int .i64 a3_0, .int .u64 a3_1, .int .i64 a3_2] 24 (0, 0)) (by (with_reducible repeat (first | apply bN_ | apply bD_ | apply bA_)); refine blk_far ?_ NB211_217.out _; (with_reducible repeat (first | apply bN_ | apply bD_ | apply bA_)); refine blk_far ?_ NB211_217.out _; (with_reducible repeat (first | apply bN_ | apply bD_ | apply bA_)); refine blk_far ?_ NB211_217.out _; exact bk_)) : gb211 ≠ gb218)); have n10_ := Aside0.mk ((by rw [hg]; exact Nat.ne_of_gt (blk_lt (g := gb211) (o := .cells #[.int .i64 a3_0, .int .u64 a3_1, .int .i64 a3_2] 24 (0, 0)) (by (with_reducible repeat (first | apply bN_ | apply bD_ | apply bA_)); refine blk_far ?_ NB211_217.out _; (with_reducible repeat (first | apply bN_ | apply bD_ | apply bA_)); refine blk_far ?_ NB211_217.out _; (with_reducible repeat (first | apply bN_ | apply bD_ | apply bA_)); refine blk_far ?_ NB211_217.out _; exact bk_)) : gb218 ≠ gb211)); have n11_ := Aside0.mk ((by rw [hg]; exact Nat.ne_of_lt (blk_lt (g := gb217) (o := .cells #[.int .i64 t214, .int .u64 t215, .int .i64 t216] 24 (0, 0)) (by (with_reducible repeat (first | apply bN_ | apply bD_ | apply bA_)); refine blk_put (cs := #[.int .i64 t214, .int .u64 t215, .int .i64 0]) ?_ 2 _ rfl; (with_reducible repeat (first | apply bN_ | apply bD_ | apply bA_)); refine blk_put (cs := #[.int .i64 t214, .int .u64 0, .int .i64 0]) ?_ 1 _ rfl; (with_reducible repeat (first | apply bN_ | apply bD_ | apply bA_)); refine blk_put (cs := #[.int .i64 0, .int .u64 0, .int .i64 0]) ?_ 0 _ rfl; exact bk_)) : gb217 ≠ gb218)); have n12_ := Aside0.mk ((by rw [hg]; exact Nat.ne_of_gt (blk_lt (g := gb217) (o := .cells #[.int .i64 t214, .int .u64 t215, .int .i64 t216] 24 (0, 0)) (by (with_reducible repeat (first | apply bN_ | apply bD_ | apply bA_)); refine blk_put (cs := #[.int .i64 t214, .int .u64 t215, .int .i64 0]) ?_ 2 _ rfl; (with_reducible repeat (first | apply bN_ | apply bD_ | apply bA_)); refine blk_put (cs := #[.int .i64 t214, .int .u64 0, .int .i64 0]) ?_ 1 _ rfl; (with_reducible repeat (first | apply bN_ | apply bD_ | apply bA_)); refine blk_put (cs := #[.int .i64 0, .int .u64 0, .int .i64 0]) ?_ 0 _ rfl; exact bk_)) : gb218 ≠ gb217)); clear BK210; clear BK211; clear BK217; clear HB; have BK210 := n0_; have BK211 := n1_; have BK217 := n2_; have HB := n3_; have BK218 := n4_; have GW218 := n5_; have GE218 := n6_; have NB210_218 := n7_; have NB218_210 := n8_; have NB211_218 := n9_; have NB218_211 := n10_; have NB217_218 := n11_; have NB218_217 := n12_; clear n0_ n1_ n2_ n3_ n4_ n5_ n6_ n7_ n8_ n9_ n10_ n11_ n12_; clear hb hbox hg; have hnb21 := NB218_210.out; have hnc21 := NB210_218.out; have hnb22 := NB218_211.out; have hnc22 := NB211_218.out; have hnb23 := NB218_217.out; have hnc23 := NB217_218.out; obtain ⟨zc24_0, zc24_1, zf24_0, zf24_1⟩ := k2_ BK218))
  (try simp only [Act.put, s1_, s2_, s3_])
  go_cut [34] (fun v34 wc => ∃ (kq : Nat) (x34_8 : Bool), v34 = .bool x34_8 ∧ Aside0 (value_Compare.j0 kq a0 a1 a4 x34_8 a2_0 a2_1 a2_2 a3_0 a3_1 a3_2 t214 t215 t216 a2_0 a3_0 = some (r1, r2)) ∧ Aside0 (kq ≤ k) ∧ Aside0 (wc.heap[gb210]? = some (.cells #[.int .i64 a2_0, .int .u64 a2_1, .int .i64 a2_2] 24 (0, 0))) ∧ Aside0 (wc.heap[gb211]? = some (.cells #[.int .i64 a3_0, .int .u64 a3_1, .int .i64 a3_2] 24 (0, 0))) ∧ Aside0 (wc.heap[gb217]? = some (.cells #[.int .i64 t214, .int .u64 t215, .int .i64 t216] 24 (0, 0))) ∧ Aside0 (wc.heap[gb218]? = some (.cells #[.int .i64 a2_0, .int .i64 a3_0] 49 (0, 0))) ∧ Aside0 (Below w.heap.size w wc))
  case first =>
   have H := HC9.out
   clear HC9
   by_cases c25 : a2_0 = 0
   ·rw [if_pos c25] at H
    have c25b0 : (a2_0 == 0) = true := beq_iff_eq.mpr c25
    have c25b1 : (a2_0 != 0) = false := bne_eq_false_iff_eq.mpr c25
    clear c25
    (first | rw [c25b0] | (simp only [i64_w, i32_w]; rw [c25b0]) | skip)
    have H' := Aside0.mk H
    clear H
    have hnb26 := NB210_211.out
    have hnc26 := NB211_210.out
    have hnb27 := NB210_217.out
    have hnc27 := NB217_210.out
    have hnb28 := NB210_218.out
    have hnc28 := NB218_210.out
    obtain ⟨zc29_0, zc29_1, zc29_2, zf29_0, zf29_1, zf29_2⟩ := k3_ BK210
    go_wp2
    go_meet
    case rel => exact ⟨_, (true), (by first | rfl | (simp; done) | (simp [*]; done)), H', ⟨by first | omega | exact Nat.le_refl _⟩, ⟨by (with_reducible repeat (first | apply bN_ | apply bD_ | apply bA_)); refine blk_far ?_ NB210_218.out _; (with_reducible repeat (first | apply bN_ | apply bD_ | apply bA_)); refine blk_far ?_ NB210_218.out _; exact bk_⟩, ⟨by (with_reducible repeat (first | apply bN_ | apply bD_ | apply bA_)); refine blk_far ?_ NB211_218.out _; (with_reducible repeat (first | apply bN_ | apply bD_ | apply bA_)); refine blk_far ?_ NB211_218.out _; exact bk_⟩, ⟨by (with_reducible repeat (first | apply bN_ | apply bD_ | apply bA_)); refine blk_far ?_ NB217_218.out _; (with_reducible repeat (first | apply bN_ | apply bD_ | apply bA_)); refine blk_far ?_ NB217_218.out _; exact bk_⟩, ⟨by (with_reducible repeat (first | apply bN_ | apply bD_ | apply bA_)); refine blk_put (cs := #[.int .i64 a2_0, .int .i64 0]) ?_ 1 _ rfl; (with_reducible repeat (first | apply bN_ | apply bD_ | apply bA_)); refine blk_put (cs := #[.int .i64 0, .int .i64 0]) ?_ 0 _ rfl; exact bk_⟩, ⟨bz_⟩⟩
   ·rw [if_neg c25] at H
    have c25b0 : (a2_0 == 0) = false := beq_eq_false_iff_ne.mpr c25
    have c25b1 : (a2_0 != 0) = true := bne_iff_ne.mpr c25
    (first | rw [c25b0] | (simp only [i64_w, i32_w]; rw [c25b0]) | skip)
    have H' := Aside0.mk H
    clear H
    have hnb30 := NB210_211.out
    have hnc30 := NB211_210.out
    have hnb31 := NB210_217.out
    have hnc31 := NB217_210.out
    have hnb32 := NB210_218.out
    have hnc32 := NB218_210.out
    obtain ⟨zc33_0, zc33_1, zc33_2, zf33_0, zf33_1, zf33_2⟩ := k3_ BK210
    have hnb34 := NB211_217.out
    have hnc34 := NB217_211.out
    have hnb35 := NB211_218.out
    have hnc35 := NB218_211.out
    obtain ⟨zc36_0, zc36_1, zc36_2, zf36_0, zf36_1, zf36_2⟩ := k3_ BK211
    go_wp2
    go_meet
    case rel => exact ⟨_, ((a3_0 == 0)), (by first | rfl | (simp; done) | (simp [*]; done)), H', ⟨by first | omega | exact Nat.le_refl _⟩, ⟨by (with_reducible repeat (first | apply bN_ | apply bD_ | apply bA_)); refine blk_far ?_ NB210_218.out _; (with_reducible repeat (first | apply bN_ | apply bD_ | apply bA_)); refine blk_far ?_ NB210_218.out _; exact bk_⟩, ⟨by (with_reducible repeat (first | apply bN_ | apply bD_ | apply bA_)); refine blk_far ?_ NB211_218.out _; (with_reducible repeat (first | apply bN_ | apply bD_ | apply bA_)); refine blk_far ?_ NB211_218.out _; exact bk_⟩, ⟨by (with_reducible repeat (first | apply bN_ | apply bD_ | apply bA_)); refine blk_far ?_ NB217_218.out _; (with_reducible repeat (first | apply bN_ | apply bD_ | apply bA_)); refine blk_far ?_ NB217_218.out _; exact bk_⟩, ⟨by (with_reducible repeat (first | apply bN_ | apply bD_ | apply bA_)); refine blk_put (cs := #[.int .i64 a2_0, .int .i64 0]) ?_ 1 _ rfl; (with_reducible repeat (first | apply bN_ | apply bD_ | apply bA_)); refine blk_put (cs := #[.int .i64 0, .int .i64 0]) ?_ 0 _ rfl; exact bk_⟩, ⟨bz_⟩⟩
  case rest =>
   clear HC9
   try clear c1
   try clear c2
   try clear p2
   try clear c3
   try clear c7
   try clear c14
   try clear c15
   try clear c17
   try clear c20
   try clear c21
   try clear c22
   try clear c23
   try clear c25
   try clear c25b0
   try clear c25b1
   try clear c26
   try clear c27
   try clear c28
   try clear c30
   try clear c31
   try clear c32
   try clear c34
   try clear c35
   try clear zc16_0
   try clear zc16_1
   try clear zc16_2
   try clear zc18_0
   try clear zc18_1
   try clear zc18_2
   try clear zc19_0
   try clear zc19_1
   try clear zc19_2
   try clear zc24_0
   try clear zc24_1
   try clear zc29_0
   try clear zc29_1
   try clear zc29_2
   try clear zc33_0
   try clear zc33_1
   try clear zc33_2
   try clear zc36_0
   try clear zc36_1
   try clear zc36_2
   try clear zf16_0
   try clear zf16_1
   try clear zf16_2
   try clear zf18_0
   try clear zf18_1
   try clear zf18_2
   try clear zf19_0
   try clear zf19_1
   try clear zf19_2
   try clear zf24_0
   try clear zf24_1
   try clear zf29_0
   try clear zf29_1
   try clear zf29_2
   try clear zf33_0
   try clear zf33_1
   try clear zf33_2
   try clear zf36_0
   try clear zf36_1
   try clear zf36_2
   obtain ⟨kq, x34_8, rfl, HA, HJ8, BK210, BK211, BK217, BK218, HB⟩ := hcut
   cases kq with
   | zero => exact absurd HA.out (by simp [value_Compare.j0])
   | succ kj8 =>
    have H := HA.out
    clear HA
    simp only [value_Compare.j0] at H
    by_cases c37 : x34_8 = true
    ·subst c37
     have H1 : (some (false, 20)) = some (r1, r2) := by rw [if_pos rfl] at H; exact H
     clear H
     have H := H1
     clear H1
     simp only [Option.some.injEq, Prod.mk.injEq] at H
     obtain ⟨rfl, rfl⟩ := H
     go_wp2
     go_ret2
     exact ⟨vv_, bz_⟩
    ·replace c37 := Bool.eq_false_iff.mpr c37
     subst c37
     have H1 : (if (a2_0 == 1 && (a3_0 == 1)) = true then ((word_Jump.f kj8 a0 a1 a2_1 a3_1).bind fun bt219 => (some (bt219.1, 0))) else (if a1 = true then (if a0 = 1 then (value_Compare.j1 kj8 a0 a4 true a2_0 a2_1 a2_2 a3_0 a3_1 a3_2 t214 t215 t216 a2_0 a3_0) else (value_Compare.j1 kj8 a0 a4 (a0 == 5) a2_0 a2_1 a2_2 a3_0 a3_1 a3_2 t214 t215 t216 a2_0 a3_0)) else (some (false, 21)))) = some (r1, r2) := by rw [if_neg (show ¬ (false = true) by decide)] at H; exact H
     clear H
     have H := H1
     clear H1
     by_cases c38 : (a2_0 == 1 && (a3_0 == 1)) = true
     ·rw [if_pos c38] at H
      have c38b0 : (a2_0 == 1 && (a3_0 == 1)) = true := c38
      (try (have c38b1 : decide (a2_0 = 1 && (a3_0 == 1)) = true := by simpa using c38))
      (try (have c38b2 : (a2_0 == 1 && (a3_0 == 1)) = true := by simpa using c38))
      clear c38
      replace H := Option.bind_eq_some_iff.mp H
      obtain ⟨⟨t219, t220⟩, A390, H⟩ := H
      replace H : (some (t219, 0)) = some (r1, r2) := H
      have A39 := Aside0.mk A390
      clear A390
      simp only [Option.some.injEq, Prod.mk.injEq] at H
      obtain ⟨rfl, rfl⟩ := H
      have hnb40 := NB218_210.out
      have hnc40 := NB210_218.out
      have hnb41 := NB218_211.out
      have hnc41 := NB211_218.out
      have hnb42 := NB218_217.out
      have hnc42 := NB217_218.out
      obtain ⟨zc43_0, zc43_1, zf43_0, zf43_1⟩ := k2_ BK218
      have hnb44 := NB210_211.out
      have hnc44 := NB211_210.out
      have hnb45 := NB210_217.out
      have hnc45 := NB217_210.out
      obtain ⟨zc46_0, zc46_1, zc46_2, zf46_0, zf46_1, zf46_2⟩ := k3_ BK210
      have hnb47 := NB211_217.out
      have hnc47 := NB217_211.out
      obtain ⟨zc48_0, zc48_1, zc48_2, zf48_0, zf48_1, zf48_2⟩ := k3_ BK211
      go_wp2_with (first | ((with_reducible refine gate_callee (f := 25) rfl ?_); refine gM_ 54 Try.func25 (word_Jump.calls kj8 a0 a1 a2_1 a3_1 t219 t220 _ A39.out) ?_; rintro w' ⟨nd, rfl⟩))
      go_ret2
      exact ⟨vv_, bz_⟩
     ·rw [if_neg c38] at H
      have c38b0 : (a2_0 == 1 && (a3_0 == 1)) = false := by simpa using c38
      (try (have c38b1 : decide (a2_0 = 1 && (a3_0 == 1)) = false := by simpa using c38))
      (try (have c38b2 : (a2_0 == 1 && (a3_0 == 1)) = false := by simpa using c38))
      (try (have c38b3 : ¬ (a2_0 = 1 && (a3_0 == 1)) := by simpa using c38))
      clear c38
      by_cases c49 : a1 = true
      ·subst c49
       have H1 : (if a0 = 1 then (value_Compare.j1 kj8 a0 a4 true a2_0 a2_1 a2_2 a3_0 a3_1 a3_2 t214 t215 t216 a2_0 a3_0) else (value_Compare.j1 kj8 a0 a4 (a0 == 5) a2_0 a2_1 a2_2 a3_0 a3_1 a3_2 t214 t215 t216 a2_0 a3_0)) = some (r1, r2) := by rw [if_pos rfl] at H; exact H
       clear H
       have H := H1
       clear H1
       have HC50 := Aside0.mk H
       clear H
       have hnb51 := NB218_210.out
       have hnc51 := NB210_218.out
       have hnb52 := NB218_211.out
       have hnc52 := NB211_218.out
       have hnb53 := NB218_217.out
       have hnc53 := NB217_218.out
       obtain ⟨zc54_0, zc54_1, zf54_0, zf54_1⟩ := k2_ BK218
       go_upto_region 13 with (fail)
       go_cut [61] (fun v61 wc => ∃ (kq : Nat) (x61_49 : Bool), v61 = .bool x61_49 ∧ Aside0 (value_Compare.j1 kq a0 a4 x61_49 a2_0 a2_1 a2_2 a3_0 a3_1 a3_2 t214 t215 t216 a2_0 a3_0 = some (r1, r2)) ∧ Aside0 (kq ≤ kj8) ∧ Aside0 (wc.heap[gb210]? = some (.cells #[.int .i64 a2_0, .int .u64 a2_1, .int .i64 a2_2] 24 (0, 0))) ∧ Aside0 (wc.heap[gb211]? = some (.cells #[.int .i64 a3_0, .int .u64 a3_1, .int .i64 a3_2] 24 (0, 0))) ∧ Aside0 (wc.heap[gb217]? = some (.cells #[.int .i64 t214, .int .u64 t215, .int .i64 t216] 24 (0, 0))) ∧ Aside0 (wc.heap[gb218]? = some (.cells #[.int .i64 a2_0, .int .i64 a3_0] 49 (0, 0))) ∧ Aside0 (Below w.heap.size w wc))
       case first =>
        have H := HC50.out
        clear HC50
        by_cases c55 : a0 = 1
        ·rw [if_pos c55] at H
         have c55b0 : (a0 == 1) = true := beq_iff_eq.mpr c55
         have c55b1 : (a0 != 1) = false := bne_eq_false_iff_eq.mpr c55
         clear c55
         (first | rw [c55b0] | (simp only [i64_w, i32_w]; rw [c55b0]) | skip)
         have H' := Aside0.mk H
         clear H
         go_wp2
         go_meet
         case rel => exact ⟨_, (true), (by first | rfl | (simp; done) | (simp [*]; done)), H', ⟨by have := HJ8.out; first | omega | exact Nat.le_refl _⟩, ⟨bk_⟩, ⟨bk_⟩, ⟨bk_⟩, ⟨bk_⟩, ⟨bz_⟩⟩
        ·rw [if_neg c55] at H
         have c55b0 : (a0 == 1) = false := beq_eq_false_iff_ne.mpr c55
         have c55b1 : (a0 != 1) = true := bne_iff_ne.mpr c55
         (first | rw [c55b0] | (simp only [i64_w, i32_w]; rw [c55b0]) | skip)
         have H' := Aside0.mk H
         clear H
         go_wp2
         go_meet
         case rel => exact ⟨_, ((a0 == 5)), (by first | rfl | (simp; done) | (simp [*]; done)), H', ⟨by have := HJ8.out; first | omega | exact Nat.le_refl _⟩, ⟨bk_⟩, ⟨bk_⟩, ⟨bk_⟩, ⟨bk_⟩, ⟨bz_⟩⟩
       case rest =>
        clear HC50
        try clear c1
        try clear c2
        try clear p2
        try clear c3
        try clear c4
        try clear c5
        try clear c7
        try clear c14
        try clear c15
        try clear c17
        try clear c20
        try clear c21
        try clear c22
        try clear c23
        try clear c25
        try clear c25b0
        try clear c25b1
        try clear c26
        try clear c27
        try clear c28
        try clear c30
        try clear c31
        try clear c32
        try clear c34
        try clear c35
        try clear c37
        try clear c38
        try clear c38b0
        try clear c38b1
        try clear c38b2
        try clear c40
        try clear c41
        try clear c42
        try clear c44
        try clear c45
        try clear c47
        try clear c49
        try clear c51
        try clear c52
        try clear c53
        try clear c55
        try clear c55b0
        try clear c55b1
        try clear zc16_0
        try clear zc16_1
        try clear zc16_2
        try clear zc18_0
        try clear zc18_1
        try clear zc18_2
        try clear zc19_0
        try clear zc19_1
        try clear zc19_2
        try clear zc24_0
        try clear zc24_1
        try clear zc29_0
        try clear zc29_1
        try clear zc29_2
        try clear zc33_0
        try clear zc33_1
        try clear zc33_2
        try clear zc36_0
        try clear zc36_1
        try clear zc36_2
        try clear zc43_0
        try clear zc43_1
        try clear zc46_0
        try clear zc46_1
        try clear zc46_2
        try clear zc48_0
        try clear zc48_1
        try clear zc48_2
        try clear zc54_0
        try clear zc54_1
        try clear zf16_0
        try clear zf16_1
        try clear zf16_2
        try clear zf18_0
        try clear zf18_1
        try clear zf18_2
        try clear zf19_0
        try clear zf19_1
        try clear zf19_2
        try clear zf24_0
        try clear zf24_1
        try clear zf29_0
        try clear zf29_1
        try clear zf29_2
        try clear zf33_0
        try clear zf33_1
        try clear zf33_2
        try clear zf36_0
        try clear zf36_1
        try clear zf36_2
        try clear zf43_0
        try clear zf43_1
        try clear zf46_0
        try clear zf46_1
        try clear zf46_2
        try clear zf48_0
        try clear zf48_1
        try clear zf48_2
        try clear zf54_0
        try clear zf54_1
        try clear p2
        obtain ⟨kq, x61_49, rfl, HA, HJ49, BK210, BK211, BK217, BK218, HB⟩ := hcut
        cases kq with
        | zero => exact absurd HA.out (by simp [value_Compare.j1])
        | succ kj49 =>
         have H := HA.out
         clear HA
         simp only [value_Compare.j1] at H
         by_cases c56 : x61_49 = true
         ·subst c56
          have H1 : (if a2_0 = 6 then ((value_sameNumber.f a3_0 a3_1 a3_2 t214 t215 t216).bind fun t221 => (if t221 = true then (some ((a0 == 5), 0)) else (if a3_0 = 6 then ((value_sameNumber.f a2_0 a2_1 a2_2 t214 t215 t216).bind fun t222 => (if t222 = true then (some ((a0 == 5), 0)) else (some (false, 21)))) else (some (false, 21))))) else (if a3_0 = 6 then ((value_sameNumber.f a2_0 a2_1 a2_2 t214 t215 t216).bind fun t223 => (if t223 = true then (some ((a0 == 5), 0)) else (some (false, 21)))) else (some (false, 21)))) = some (r1, r2) := by rw [if_pos rfl] at H; exact H
          clear H
          have H := H1
          clear H1
          by_cases c57 : a2_0 = 6
          ·rw [if_pos c57] at H
           have c57b0 : (a2_0 == 6) = true := beq_iff_eq.mpr c57
           have c57b1 : (a2_0 != 6) = false := bne_eq_false_iff_eq.mpr c57
           clear c57
           replace H := Option.bind_eq_some_iff.mp H
           obtain ⟨t221, A580, H⟩ := H
           replace H : (if t221 = true then (some ((a0 == 5), 0)) else (if a3_0 = 6 then ((value_sameNumber.f a2_0 a2_1 a2_2 t214 t215 t216).bind fun t222 => (if t222 = true then (some ((a0 == 5), 0)) else (some (false, 21)))) else (some (false, 21)))) = some (r1, r2) := H
           have A58 := Aside0.mk A580
           clear A580
           by_cases c59 : t221 = true
           ·subst c59
            have H1 : (some ((a0 == 5), 0)) = some (r1, r2) := by rw [if_pos rfl] at H; exact H
            clear H
            have H := H1
            clear H1
            simp only [Option.some.injEq, Prod.mk.injEq] at H
            obtain ⟨rfl, rfl⟩ := H
            have hnb60 := NB210_211.out
            have hnc60 := NB211_210.out
            have hnb61 := NB210_217.out
            have hnc61 := NB217_210.out
            have hnb62 := NB210_218.out
            have hnc62 := NB218_210.out
            obtain ⟨zc63_0, zc63_1, zc63_2, zf63_0, zf63_1, zf63_2⟩ := k3_ BK210
            have hnb64 := NB211_217.out
            have hnc64 := NB217_211.out
            have hnb65 := NB211_218.out
            have hnc65 := NB218_211.out
            obtain ⟨zc66_0, zc66_1, zc66_2, zf66_0, zf66_1, zf66_2⟩ := k3_ BK211
            have hnb67 := NB217_218.out
            have hnc67 := NB218_217.out
            obtain ⟨zc68_0, zc68_1, zc68_2, zf68_0, zf68_1, zf68_2⟩ := k3_ BK217
            go_wp2_with (first | (go_at_call 30; (with_reducible refine (value_sameNumber.calls a3_0 a3_1 a3_2 t214 t215 t216 true _ A58.out).mono ?_); rintro e w69 ⟨rfl, hb⟩; replace BK210 := bb_ hb BK210; replace BK211 := bb_ hb BK211; replace BK217 := bb_ hb BK217; replace BK218 := bb_ hb BK218; replace HB := bl_ hb; (try clear hb); (try clear hb2); (try clear hk); (try clear hi)))
            go_ret2
            exact ⟨vv_, bz_⟩
           ·replace c59 := Bool.eq_false_iff.mpr c59
            subst c59
            have H1 : (if a3_0 = 6 then ((value_sameNumber.f a2_0 a2_1 a2_2 t214 t215 t216).bind fun t222 => (if t222 = true then (some ((a0 == 5), 0)) else (some (false, 21)))) else (some (false, 21))) = some (r1, r2) := by rw [if_neg (show ¬ (false = true) by decide)] at H; exact H
            clear H
            have H := H1
            clear H1
            by_cases c70 : a3_0 = 6
            ·rw [if_pos c70] at H
             have c70b0 : (a3_0 == 6) = true := beq_iff_eq.mpr c70
             have c70b1 : (a3_0 != 6) = false := bne_eq_false_iff_eq.mpr c70
             clear c70
             replace H := Option.bind_eq_some_iff.mp H
             obtain ⟨t222, A710, H⟩ := H
             replace H : (if t222 = true then (some ((a0 == 5), 0)) else (some (false, 21))) = some (r1, r2) := H
             have A71 := Aside0.mk A710
             clear A710
             by_cases c72 : t222 = true
             ·subst c72
              have H1 : (some ((a0 == 5), 0)) = some (r1, r2) := by rw [if_pos rfl] at H; exact H
              clear H
              have H := H1
              clear H1
              simp only [Option.some.injEq, Prod.mk.injEq] at H
              obtain ⟨rfl, rfl⟩ := H
              have hnb73 := NB210_211.out
              have hnc73 := NB211_210.out
              have hnb74 := NB210_217.out
              have hnc74 := NB217_210.out
              have hnb75 := NB210_218.out
              have hnc75 := NB218_210.out
              obtain ⟨zc76_0, zc76_1, zc76_2, zf76_0, zf76_1, zf76_2⟩ := k3_ BK210
              have hnb77 := NB211_217.out
              have hnc77 := NB217_211.out
              have hnb78 := NB211_218.out
              have hnc78 := NB218_211.out
              obtain ⟨zc79_0, zc79_1, zc79_2, zf79_0, zf79_1, zf79_2⟩ := k3_ BK211
              have hnb80 := NB217_218.out
              have hnc80 := NB218_217.out
              obtain ⟨zc81_0, zc81_1, zc81_2, zf81_0, zf81_1, zf81_2⟩ := k3_ BK217
              go_wp2_with (first | (go_at_call 30; (with_reducible refine (value_sameNumber.calls a3_0 a3_1 a3_2 t214 t215 t216 false _ A58.out).mono ?_); rintro e w82 ⟨rfl, hb⟩; replace BK210 := bb_ hb BK210; replace BK211 := bb_ hb BK211; replace BK217 := bb_ hb BK217; replace BK218 := bb_ hb BK218; replace HB := bl_ hb; (try clear hb); (try clear hb2); (try clear hk); (try clear hi); obtain ⟨zc83_0, zc83_1, zc83_2, zf83_0, zf83_1, zf83_2⟩ := k3_ BK211; obtain ⟨zc84_0, zc84_1, zc84_2, zf84_0, zf84_1, zf84_2⟩ := k3_ BK210; obtain ⟨zc85_0, zc85_1, zc85_2, zf85_0, zf85_1, zf85_2⟩ := k3_ BK217) | (go_at_call 30; (with_reducible refine (value_sameNumber.calls a2_0 a2_1 a2_2 t214 t215 t216 true _ A71.out).mono ?_); rintro e w86 ⟨rfl, hb⟩; replace BK210 := bb_ hb BK210; replace BK211 := bb_ hb BK211; replace BK217 := bb_ hb BK217; replace BK218 := bb_ hb BK218; replace HB := bl_ hb; (try clear hb); (try clear hb2); (try clear hk); (try clear hi)))
              go_ret2
              exact ⟨vv_, bz_⟩
             ·replace c72 := Bool.eq_false_iff.mpr c72
              subst c72
              have H1 : (some (false, 21)) = some (r1, r2) := by rw [if_neg (show ¬ (false = true) by decide)] at H; exact H
              clear H
              have H := H1
              clear H1
              simp only [Option.some.injEq, Prod.mk.injEq] at H
              obtain ⟨rfl, rfl⟩ := H
              have hnb87 := NB210_211.out
              have hnc87 := NB211_210.out
              have hnb88 := NB210_217.out
              have hnc88 := NB217_210.out
              have hnb89 := NB210_218.out
              have hnc89 := NB218_210.out
              obtain ⟨zc90_0, zc90_1, zc90_2, zf90_0, zf90_1, zf90_2⟩ := k3_ BK210
              have hnb91 := NB211_217.out
              have hnc91 := NB217_211.out
              have hnb92 := NB211_218.out
              have hnc92 := NB218_211.out
              obtain ⟨zc93_0, zc93_1, zc93_2, zf93_0, zf93_1, zf93_2⟩ := k3_ BK211
              have hnb94 := NB217_218.out
              have hnc94 := NB218_217.out
              obtain ⟨zc95_0, zc95_1, zc95_2, zf95_0, zf95_1, zf95_2⟩ := k3_ BK217
              go_wp2_with (first | (go_at_call 30; (with_reducible refine (value_sameNumber.calls a3_0 a3_1 a3_2 t214 t215 t216 false _ A58.out).mono ?_); rintro e w96 ⟨rfl, hb⟩; replace BK210 := bb_ hb BK210; replace BK211 := bb_ hb BK211; replace BK217 := bb_ hb BK217; replace BK218 := bb_ hb BK218; replace HB := bl_ hb; (try clear hb); (try clear hb2); (try clear hk); (try clear hi); obtain ⟨zc97_0, zc97_1, zc97_2, zf97_0, zf97_1, zf97_2⟩ := k3_ BK211; obtain ⟨zc98_0, zc98_1, zc98_2, zf98_0, zf98_1, zf98_2⟩ := k3_ BK210; obtain ⟨zc99_0, zc99_1, zc99_2, zf99_0, zf99_1, zf99_2⟩ := k3_ BK217) | (go_at_call 30; (with_reducible refine (value_sameNumber.calls a2_0 a2_1 a2_2 t214 t215 t216 false _ A71.out).mono ?_); rintro e w100 ⟨rfl, hb⟩; replace BK210 := bb_ hb BK210; replace BK211 := bb_ hb BK211; replace BK217 := bb_ hb BK217; replace BK218 := bb_ hb BK218; replace HB := bl_ hb; (try clear hb); (try clear hb2); (try clear hk); (try clear hi)))
              go_ret2
              exact ⟨vv_, bz_⟩
            ·rw [if_neg c70] at H
             have c70b0 : (a3_0 == 6) = false := beq_eq_false_iff_ne.mpr c70
             have c70b1 : (a3_0 != 6) = true := bne_iff_ne.mpr c70
             simp only [Option.some.injEq, Prod.mk.injEq] at H
             obtain ⟨rfl, rfl⟩ := H
             have hnb101 := NB210_211.out
             have hnc101 := NB211_210.out
             have hnb102 := NB210_217.out
             have hnc102 := NB217_210.out
             have hnb103 := NB210_218.out
             have hnc103 := NB218_210.out
             obtain ⟨zc104_0, zc104_1, zc104_2, zf104_0, zf104_1, zf104_2⟩ := k3_ BK210
             have hnb105 := NB211_217.out
             have hnc105 := NB217_211.out
             have hnb106 := NB211_218.out
             have hnc106 := NB218_211.out
             obtain ⟨zc107_0, zc107_1, zc107_2, zf107_0, zf107_1, zf107_2⟩ := k3_ BK211
             have hnb108 := NB217_218.out
             have hnc108 := NB218_217.out
             obtain ⟨zc109_0, zc109_1, zc109_2, zf109_0, zf109_1, zf109_2⟩ := k3_ BK217
             go_wp2_with (first | (go_at_call 30; (with_reducible refine (value_sameNumber.calls a3_0 a3_1 a3_2 t214 t215 t216 false _ A58.out).mono ?_); rintro e w110 ⟨rfl, hb⟩; replace BK210 := bb_ hb BK210; replace BK211 := bb_ hb BK211; replace BK217 := bb_ hb BK217; replace BK218 := bb_ hb BK218; replace HB := bl_ hb; (try clear hb); (try clear hb2); (try clear hk); (try clear hi); obtain ⟨zc111_0, zc111_1, zc111_2, zf111_0, zf111_1, zf111_2⟩ := k3_ BK211))
             go_ret2
             exact ⟨vv_, bz_⟩
          ·rw [if_neg c57] at H
           have c57b0 : (a2_0 == 6) = false := beq_eq_false_iff_ne.mpr c57
           have c57b1 : (a2_0 != 6) = true := bne_iff_ne.mpr c57
           by_cases c112 : a3_0 = 6
           ·rw [if_pos c112] at H
            have c112b0 : (a3_0 == 6) = true := beq_iff_eq.mpr c112
            have c112b1 : (a3_0 != 6) = false := bne_eq_false_iff_eq.mpr c112
            clear c112
            replace H := Option.bind_eq_some_iff.mp H
            obtain ⟨t223, A1130, H⟩ := H
            replace H : (if t223 = true then (some ((a0 == 5), 0)) else (some (false, 21))) = some (r1, r2) := H
            have A113 := Aside0.mk A1130
            clear A1130
            by_cases c114 : t223 = true
            ·subst c114
             have H1 : (some ((a0 == 5), 0)) = some (r1, r2) := by rw [if_pos rfl] at H; exact H
             clear H
             have H := H1
             clear H1
             simp only [Option.some.injEq, Prod.mk.injEq] at H
             obtain ⟨rfl, rfl⟩ := H
             have hnb115 := NB210_211.out
             have hnc115 := NB211_210.out
             have hnb116 := NB210_217.out
             have hnc116 := NB217_210.out
             have hnb117 := NB210_218.out
             have hnc117 := NB218_210.out
             obtain ⟨zc118_0, zc118_1, zc118_2, zf118_0, zf118_1, zf118_2⟩ := k3_ BK210
             have hnb119 := NB211_217.out
             have hnc119 := NB217_211.out
             have hnb120 := NB211_218.out
             have hnc120 := NB218_211.out
             obtain ⟨zc121_0, zc121_1, zc121_2, zf121_0, zf121_1, zf121_2⟩ := k3_ BK211
             have hnb122 := NB217_218.out
             have hnc122 := NB218_217.out
             obtain ⟨zc123_0, zc123_1, zc123_2, zf123_0, zf123_1, zf123_2⟩ := k3_ BK217
             go_wp2_with (first | (go_at_call 30; (with_reducible refine (value_sameNumber.calls a2_0 a2_1 a2_2 t214 t215 t216 true _ A113.out).mono ?_); rintro e w124 ⟨rfl, hb⟩; replace BK210 := bb_ hb BK210; replace BK211 := bb_ hb BK211; replace BK217 := bb_ hb BK217; replace BK218 := bb_ hb BK218; replace HB := bl_ hb; (try clear hb); (try clear hb2); (try clear hk); (try clear hi)))
             go_ret2
             exact ⟨vv_, bz_⟩
            ·replace c114 := Bool.eq_false_iff.mpr c114
             subst c114
             have H1 : (some (false, 21)) = some (r1, r2) := by rw [if_neg (show ¬ (false = true) by decide)] at H; exact H
             clear H
             have H := H1
             clear H1
             simp only [Option.some.injEq, Prod.mk.injEq] at H
             obtain ⟨rfl, rfl⟩ := H
             have hnb125 := NB210_211.out
             have hnc125 := NB211_210.out
             have hnb126 := NB210_217.out
             have hnc126 := NB217_210.out
             have hnb127 := NB210_218.out
             have hnc127 := NB218_210.out
             obtain ⟨zc128_0, zc128_1, zc128_2, zf128_0, zf128_1, zf128_2⟩ := k3_ BK210
             have hnb129 := NB211_217.out
             have hnc129 := NB217_211.out
             have hnb130 := NB211_218.out
             have hnc130 := NB218_211.out
             obtain ⟨zc131_0, zc131_1, zc131_2, zf131_0, zf131_1, zf131_2⟩ := k3_ BK211
             have hnb132 := NB217_218.out
             have hnc132 := NB218_217.out
             obtain ⟨zc133_0, zc133_1, zc133_2, zf133_0, zf133_1, zf133_2⟩ := k3_ BK217
             go_wp2_with (first | (go_at_call 30; (with_reducible refine (value_sameNumber.calls a2_0 a2_1 a2_2 t214 t215 t216 false _ A113.out).mono ?_); rintro e w134 ⟨rfl, hb⟩; replace BK210 := bb_ hb BK210; replace BK211 := bb_ hb BK211; replace BK217 := bb_ hb BK217; replace BK218 := bb_ hb BK218; replace HB := bl_ hb; (try clear hb); (try clear hb2); (try clear hk); (try clear hi)))
             go_ret2
             exact ⟨vv_, bz_⟩
           ·rw [if_neg c112] at H
            have c112b0 : (a3_0 == 6) = false := beq_eq_false_iff_ne.mpr c112
            have c112b1 : (a3_0 != 6) = true := bne_iff_ne.mpr c112
            simp only [Option.some.injEq, Prod.mk.injEq] at H
            obtain ⟨rfl, rfl⟩ := H
            have hnb135 := NB210_211.out
            have hnc135 := NB211_210.out
            have hnb136 := NB210_217.out
            have hnc136 := NB217_210.out
            have hnb137 := NB210_218.out
            have hnc137 := NB218_210.out
            obtain ⟨zc138_0, zc138_1, zc138_2, zf138_0, zf138_1, zf138_2⟩ := k3_ BK210
            have hnb139 := NB211_217.out
            have hnc139 := NB217_211.out
            have hnb140 := NB211_218.out
            have hnc140 := NB218_211.out
            obtain ⟨zc141_0, zc141_1, zc141_2, zf141_0, zf141_1, zf141_2⟩ := k3_ BK211
            go_wp2
            go_ret2
            exact ⟨vv_, bz_⟩
         ·replace c56 := Bool.eq_false_iff.mpr c56
          subst c56
          have H1 : (if (a2_0 == 2 && (a3_0 == 3)) = true then ((value_ordered.f a0 (wrap64 (a2_1)) a4).bind fun bt224 => (if bt224.2 = true then (some (bt224.1, 0)) else (some (false, 21)))) else (if (a2_0 == 3 && (a3_0 == 2)) = true then ((value_ordered.f a0 a4 (wrap64 (a3_1))).bind fun bt226 => (if bt226.2 = true then (some (bt226.1, 0)) else (some (false, 21)))) else (some (false, 21)))) = some (r1, r2) := by rw [if_neg (show ¬ (false = true) by decide)] at H; exact H
          clear H
          have H := H1
          clear H1
          by_cases c142 : (a2_0 == 2 && (a3_0 == 3)) = true
          ·rw [if_pos c142] at H
           have c142b0 : (a2_0 == 2 && (a3_0 == 3)) = true := c142
           (try (have c142b1 : decide (a2_0 = 2 && (a3_0 == 3)) = true := by simpa using c142))
           (try (have c142b2 : (a2_0 == 2 && (a3_0 == 3)) = true := by simpa using c142))
           clear c142
           replace H := Option.bind_eq_some_iff.mp H
           obtain ⟨⟨t224, t225⟩, A1430, H⟩ := H
           replace H : (if t225 = true then (some (t224, 0)) else (some (false, 21))) = some (r1, r2) := H
           have A143 := Aside0.mk A1430
           clear A1430
           by_cases c144 : t225 = true
           ·subst c144
            have H1 : (some (t224, 0)) = some (r1, r2) := by rw [if_pos rfl] at H; exact H
            clear H
            have H := H1
            clear H1
            simp only [Option.some.injEq, Prod.mk.injEq] at H
            obtain ⟨rfl, rfl⟩ := H
            have hnb145 := NB218_210.out
            have hnc145 := NB210_218.out
            have hnb146 := NB218_211.out
            have hnc146 := NB211_218.out
            have hnb147 := NB218_217.out
            have hnc147 := NB217_218.out
            obtain ⟨zc148_0, zc148_1, zf148_0, zf148_1⟩ := k2_ BK218
            have hnb149 := NB210_211.out
            have hnc149 := NB211_210.out
            have hnb150 := NB210_217.out
            have hnc150 := NB217_210.out
            obtain ⟨zc151_0, zc151_1, zc151_2, zf151_0, zf151_1, zf151_2⟩ := k3_ BK210
            go_wp2_with (first | ((with_reducible refine gate_callee (f := 31) rfl ?_); refine gM_ 98 Try.func31 (value_ordered.calls a0 (wrap64 (a2_1)) a4 t224 true _ A143.out) ?_; rintro w' ⟨nd, rfl⟩))
            go_ret2
            exact ⟨vv_, bz_⟩
           ·replace c144 := Bool.eq_false_iff.mpr c144
            subst c144
            have H1 : (some (false, 21)) = some (r1, r2) := by rw [if_neg (show ¬ (false = true) by decide)] at H; exact H
            clear H
            have H := H1
            clear H1
            simp only [Option.some.injEq, Prod.mk.injEq] at H
            obtain ⟨rfl, rfl⟩ := H
            have hnb152 := NB218_210.out
            have hnc152 := NB210_218.out
            have hnb153 := NB218_211.out
            have hnc153 := NB211_218.out
            have hnb154 := NB218_217.out
            have hnc154 := NB217_218.out
            obtain ⟨zc155_0, zc155_1, zf155_0, zf155_1⟩ := k2_ BK218
            have hnb156 := NB210_211.out
            have hnc156 := NB211_210.out
            have hnb157 := NB210_217.out
            have hnc157 := NB217_210.out
            obtain ⟨zc158_0, zc158_1, zc158_2, zf158_0, zf158_1, zf158_2⟩ := k3_ BK210
            go_wp2_with (first | ((with_reducible refine gate_callee (f := 31) rfl ?_); refine gM_ 98 Try.func31 (value_ordered.calls a0 (wrap64 (a2_1)) a4 t224 false _ A143.out) ?_; rintro w' ⟨nd, rfl⟩))
            go_ret2
            exact ⟨vv_, bz_⟩
          ·rw [if_neg c142] at H
           have c142b0 : (a2_0 == 2 && (a3_0 == 3)) = false := by simpa using c142
           (try (have c142b1 : decide (a2_0 = 2 && (a3_0 == 3)) = false := by simpa using c142))
           (try (have c142b2 : (a2_0 == 2 && (a3_0 == 3)) = false := by simpa using c142))
           (try (have c142b3 : ¬ (a2_0 = 2 && (a3_0 == 3)) := by simpa using c142))
           clear c142
           by_cases c159 : (a2_0 == 3 && (a3_0 == 2)) = true
           ·rw [if_pos c159] at H
            have c159b0 : (a2_0 == 3 && (a3_0 == 2)) = true := c159
            (try (have c159b1 : decide (a2_0 = 3 && (a3_0 == 2)) = true := by simpa using c159))
            (try (have c159b2 : (a2_0 == 3 && (a3_0 == 2)) = true := by simpa using c159))
            clear c159
            replace H := Option.bind_eq_some_iff.mp H
            obtain ⟨⟨t226, t227⟩, A1600, H⟩ := H
            replace H : (if t227 = true then (some (t226, 0)) else (some (false, 21))) = some (r1, r2) := H
            have A160 := Aside0.mk A1600
            clear A1600
            by_cases c161 : t227 = true
            ·subst c161
             have H1 : (some (t226, 0)) = some (r1, r2) := by rw [if_pos rfl] at H; exact H
             clear H
             have H := H1
             clear H1
             simp only [Option.some.injEq, Prod.mk.injEq] at H
             obtain ⟨rfl, rfl⟩ := H
             have hnb162 := NB218_210.out
             have hnc162 := NB210_218.out
             have hnb163 := NB218_211.out
             have hnc163 := NB211_218.out
             have hnb164 := NB218_217.out
             have hnc164 := NB217_218.out
             obtain ⟨zc165_0, zc165_1, zf165_0, zf165_1⟩ := k2_ BK218
             have hnb166 := NB211_210.out
             have hnc166 := NB210_211.out
             have hnb167 := NB211_217.out
             have hnc167 := NB217_211.out
             obtain ⟨zc168_0, zc168_1, zc168_2, zf168_0, zf168_1, zf168_2⟩ := k3_ BK211
             go_wp2_with (first | ((with_reducible refine gate_callee (f := 31) rfl ?_); refine gM_ 110 Try.func31 (value_ordered.calls a0 a4 (wrap64 (a3_1)) t226 true _ A160.out) ?_; rintro w' ⟨nd, rfl⟩))
             go_ret2
             exact ⟨vv_, bz_⟩
            ·replace c161 := Bool.eq_false_iff.mpr c161
             subst c161
             have H1 : (some (false, 21)) = some (r1, r2) := by rw [if_neg (show ¬ (false = true) by decide)] at H; exact H
             clear H
             have H := H1
             clear H1
             simp only [Option.some.injEq, Prod.mk.injEq] at H
             obtain ⟨rfl, rfl⟩ := H
             have hnb169 := NB218_210.out
             have hnc169 := NB210_218.out
             have hnb170 := NB218_211.out
             have hnc170 := NB211_218.out
             have hnb171 := NB218_217.out
             have hnc171 := NB217_218.out
             obtain ⟨zc172_0, zc172_1, zf172_0, zf172_1⟩ := k2_ BK218
             have hnb173 := NB211_210.out
             have hnc173 := NB210_211.out
             have hnb174 := NB211_217.out
             have hnc174 := NB217_211.out
             obtain ⟨zc175_0, zc175_1, zc175_2, zf175_0, zf175_1, zf175_2⟩ := k3_ BK211
             go_wp2_with (first | ((with_reducible refine gate_callee (f := 31) rfl ?_); refine gM_ 110 Try.func31 (value_ordered.calls a0 a4 (wrap64 (a3_1)) t226 false _ A160.out) ?_; rintro w' ⟨nd, rfl⟩))
             go_ret2
             exact ⟨vv_, bz_⟩
           ·rw [if_neg c159] at H
            have c159b0 : (a2_0 == 3 && (a3_0 == 2)) = false := by simpa using c159
            (try (have c159b1 : decide (a2_0 = 3 && (a3_0 == 2)) = false := by simpa using c159))
            (try (have c159b2 : (a2_0 == 3 && (a3_0 == 2)) = false := by simpa using c159))
            (try (have c159b3 : ¬ (a2_0 = 3 && (a3_0 == 2)) := by simpa using c159))
            clear c159
            simp only [Option.some.injEq, Prod.mk.injEq] at H
            obtain ⟨rfl, rfl⟩ := H
            have hnb176 := NB218_210.out
            have hnc176 := NB210_218.out
            have hnb177 := NB218_211.out
            have hnc177 := NB211_218.out
            have hnb178 := NB218_217.out
            have hnc178 := NB217_218.out
            obtain ⟨zc179_0, zc179_1, zf179_0, zf179_1⟩ := k2_ BK218
            go_wp2
            go_ret2
            exact ⟨vv_, bz_⟩
      ·replace c49 := Bool.eq_false_iff.mpr c49
       subst c49
       have H1 : (some (false, 21)) = some (r1, r2) := by rw [if_neg (show ¬ (false = true) by decide)] at H; exact H
       clear H
       have H := H1
       clear H1
       simp only [Option.some.injEq, Prod.mk.injEq] at H
       obtain ⟨rfl, rfl⟩ := H
       have hnb180 := NB218_210.out
       have hnc180 := NB210_218.out
       have hnb181 := NB218_211.out
       have hnc181 := NB211_218.out
       have hnb182 := NB218_217.out
       have hnc182 := NB217_218.out
       obtain ⟨zc183_0, zc183_1, zf183_0, zf183_1⟩ := k2_ BK218
       go_wp2
       go_ret2
       exact ⟨vv_, bz_⟩
 ·replace c7 := Bool.eq_false_iff.mpr c7
  subst c7
  have H1 : (some (false, 4)) = some (r1, r2) := by rw [if_neg (show ¬ (false = true) by decide)] at H; exact H
  clear H
  have H := H1
  clear H1
  simp only [Option.some.injEq, Prod.mk.injEq] at H
  obtain ⟨rfl, rfl⟩ := H
  go_enter Try.func20, Try.ntmps20
  go_wp2_with (first | ((with_reducible refine gate_dst (N := 7) rfl ?_); refine bx_ 7 #[.int .i64 a2_0, .int .u64 a2_1, .int .i64 a2_2] 24 ?_; intro gb210 hg w184 BK210 hb; have GW210 := bg_ hg; have GE210 := GW210; replace HB := bl_ hb; clear hb hg) | ((with_reducible refine gate_dst (N := 8) rfl ?_); refine bx_ 8 #[.int .i64 a3_0, .int .u64 a3_1, .int .i64 a3_2] 24 ?_; intro gb211 hg w185 BK211 hb; have GW211 := bg_ hg; have GE211 := GW211; have NB210_211 := bm_ hg BK210; have NB211_210 := bn_ hg BK210; replace BK210 := bb_ hb BK210; replace HB := bl_ hb; clear hb hg) | ((with_reducible refine gate_callee (f := 25) rfl ?_); refine gM_ 23 Try.func25 (word_Jump.calls k a0 a1 0 0 t212 false _ A6.out) ?_; rintro w' ⟨nd, rfl⟩))
  go_ret2
  exact ⟨vv_, bz_⟩

end Go.Proofs.Ytnpbhippkcikoaa.PA
