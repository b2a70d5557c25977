-- PRINTED by print.py (a twelfth state) out of the translation. Not trusted: Lean checks it.
import Derived.Test.YtnephcecobocdaaPA0
import Derived.Test.YtnephcecobocdaaSq
import Derived.Test.YtnephcecobocdaaPA2
import Derived.Test.YtnephcecobocdaaPA3
import Derived.Test.YtnephcecobocdaaPA5
import Derived.Test.YtnephcecobocdaaPA13
import Derived.Test.YtnephcecobocdaaPA26
namespace Go.Proofs.Ytnephcecobocdaa.PA
open Go.RowKit Go.Proofs.YtnephcecobocdaaW.PrintWords Go.Proofs.YtnephcecobocdaaW.PrintLast Go.Proofs.YtnephcecobocdaaW.PrintMore
attribute [local go_sem] max2_int min2_int max_two min_two max_three min_three max_four min_four   -- for this text's walks alone
set_option linter.unusedVariables false
set_option linter.unusedSimpArgs false

attribute [local go_sem high] eqA26 eqA28
/-! ### lockgatelaw04_SpanBits: function 3 -/
def lockgatelaw04_SpanBits.f (k : Nat) (a0_0 : Int) (a0_1 : Int) : Option (Bool) := (span_FromT.f (Go.bits .andNot .u64 a0_0 a0_1) a0_1).bind fun bt164 => ((lockgateref04_FromT.f (Go.bits .andNot .u64 a0_0 a0_1) a0_1).bind fun bt170 => (if (bt164.1 == bt170.1 && (bt164.2.1 == bt170.2.1)) = true then (if (bt164.2.2.1 == bt170.2.2.1 && (bt164.2.2.2 == bt170.2.2.2)) = true then ((lockgatelaw04_works.f k).bind fun t176 => (some t176)) else (some false)) else (some false)))
theorem lockgatelaw04_SpanBits.mono : ∀ a0 a1 k, LeO (lockgatelaw04_SpanBits.f k a0 a1) (lockgatelaw04_SpanBits.f (k + 1) a0 a1) := by
 intro a0 a1 k
 unfold lockgatelaw04_SpanBits.f
 repeat' first
  | (with_reducible exact lockgatelaw04_works.mono _)
  | (with_reducible exact LeO.refl _)
  | (with_reducible exact LeO.none _)
  | (with_reducible refine LeO.ite ?_ ?_)
  | (with_reducible refine LeO.bind ?_ (fun _ => ?_))
  | exact lockgatelaw04_works.mono _
  | exact LeO.none _
  | refine LeO.ite ?_ ?_
  | refine LeO.bind ?_ (fun _ => ?_)
set_option maxHeartbeats 8000000 in
set_option maxRecDepth 100000 in
theorem lockgatelaw04_SpanBits.calls (k : Nat) (a0_0 : Int) (a0_1 : Int) (r : Bool) (w : World) (HRT : Aside0 (r = true)) (h : lockgatelaw04_SpanBits.f k a0_0 a0_1 = some r) :
 Calls Try.prog 3 #[.agg #[.int .u64 a0_0, .int .u64 a0_1]] w fun e w' => e = .returned (.bool r) ∧ Below w.heap.size w w' := by
 have hu24 := Try.underlying24
 have hu26 := Try.underlying26
 have hu28 := Try.underlying28
 have HB := Aside0.mk (Below.refl w.heap.size w)
 have H : ((span_FromT.f (Go.bits .andNot .u64 a0_0 a0_1) a0_1).bind fun bt164 => ((lockgateref04_FromT.f (Go.bits .andNot .u64 a0_0 a0_1) a0_1).bind fun bt170 => (if (bt164.1 == bt170.1 && (bt164.2.1 == bt170.2.1)) = true then (if (bt164.2.2.1 == bt170.2.2.1 && (bt164.2.2.2 == bt170.2.2.2)) = true then ((lockgatelaw04_works.f k).bind fun t176 => (some t176)) else (some false)) else (some false)))) = some r := h
 clear h
 replace H := Option.bind_eq_some_iff.mp H
 obtain ⟨⟨t164, t165, t166, t167⟩, A20, H⟩ := H
 replace H : ((lockgateref04_FromT.f (Go.bits .andNot .u64 a0_0 a0_1) a0_1).bind fun bt170 => (if (t164 == bt170.1 && (t165 == bt170.2.1)) = true then (if (t166 == bt170.2.2.1 && (t167 == bt170.2.2.2)) = true then ((lockgatelaw04_works.f k).bind fun t176 => (some t176)) else (some false)) else (some false))) = some r := H
 have A2 := Aside0.mk A20
 clear A20
 replace H := Option.bind_eq_some_iff.mp H
 obtain ⟨⟨t170, t171, t172, t173⟩, A30, H⟩ := H
 replace H : (if (t164 == t170 && (t165 == t171)) = true then (if (t166 == t172 && (t167 == t173)) = true then ((lockgatelaw04_works.f k).bind fun t176 => (some t176)) else (some false)) else (some false)) = some r := H
 have A3 := Aside0.mk A30
 clear A30
 by_cases c4 : (t164 == t170 && (t165 == t171)) = true
 ·rw [if_pos c4] at H
  have c4b0 : (t164 == t170 && (t165 == t171)) = true := c4
  (try (have c4b1 : decide (t164 = t170 && (t165 == t171)) = true := by simpa using c4))
  (try (have c4b2 : (t164 == t170 && (t165 == t171)) = true := by simpa using c4))
  clear c4
  by_cases c5 : (t166 == t172 && (t167 == t173)) = true
  ·rw [if_pos c5] at H
   have c5b0 : (t166 == t172 && (t167 == t173)) = true := c5
   (try (have c5b1 : decide (t166 = t172 && (t167 == t173)) = true := by simpa using c5))
   (try (have c5b2 : (t166 == t172 && (t167 == t173)) = true := by simpa using c5))
   clear c5
   replace H := Option.bind_eq_some_iff.mp H
   obtain ⟨t176, A60, H⟩ := H
   replace H : (some t176) = some r := H
   have A6 := Aside0.mk A60
   clear A60
   obtain rfl := Option.some.inj H
   go_enter Try.func3, Try.ntmps3
   go_wp2_with (first | ((with_reducible refine gate_dst (N := 1) rfl ?_); refine box_event ?hg (N := 1) ?hd (cs := #[.int .u64 a0_0, .int .u64 a0_1]) (t := 24) ?hr ?_; (case hd => rfl); (case hg => rfl); (case hr => first | (go_simp; done) | (go_simp; rfl)); intro gb163 hg w7 hbox hb; have BK163 := Aside0.mk (hbox); have GW163 := bg_ hg; have GE163 := GW163; replace HB := bl_ hb; clear hb hbox hg; have hcqgb163_0 := c0_ BK163; have hfqgb163_0 := fz_ BK163 0; have hcqgb163_1 := c1_ BK163; have hfqgb163_1 := fz_ BK163 1; have hcz8_0 := c0_ BK163; have hcz8_1 := c1_ BK163; have hfz8_0 := fz_ BK163 0; have hfz8_1 := fz_ BK163 1) | ((with_reducible refine gate_callee (f := 12) rfl ?_); refine goesL_ (some 15) rfl rfl Try.func12 (by kernel_rfl) rfl #[.agg #[.int .u64 (Go.bits .andNot .u64 a0_0 a0_1), .int .u64 a0_1]] rfl (by (try simp only [List.map_toArray, List.map_cons, List.map_nil]); first | done | rfl) ?_; (with_reducible refine (span_FromT.calls (Go.bits .andNot .u64 a0_0 a0_1) a0_1 t164 t165 t166 t167 _ A2.out).mono ?_); rintro e w9 ⟨rfl, hb⟩; refine ⟨_, rfl, ?_⟩; replace BK163 := Aside0.mk (blk_below (g := gb163) (o := .cells #[.int .u64 (Go.bits .andNot .u64 a0_0 a0_1), .int .u64 a0_1] 24 (0, 0)) (by (with_reducible repeat (first | apply bN_ | apply bD_ | apply bA_)); refine blk_put (cs := #[.int .u64 a0_0, .int .u64 a0_1]) ?_ 0 _ rfl; (with_reducible repeat (first | apply bN_ | apply bD_ | apply bA_)); exact BK163.out) hb); replace HB := bl_ hb; (try clear hb); (try clear hb2); (try clear hk); (try clear hi)) | ((with_reducible refine gate_dst (N := 3) rfl ?_); refine box_event ?hg (N := 3) ?hd (cs := #[.int .u64 0, .int .u64 0]) (t := 26) ?hr ?_; (case hd => rfl); (case hg => rfl); (case hr => first | (go_simp; done) | (go_simp; rfl)); intro gb168 hg w10 hbox hb; have BK168 := Aside0.mk (hbox); have GW168 := bg_ hg; have GE168 := GW168; have NB163_168 := bm_ hg BK163; have NB168_163 := bn_ hg BK163; replace BK163 := bb_ hb BK163; replace HB := bl_ hb; clear hb hbox hg; have hcqgb168_0 := c0_ BK168; have hfqgb168_0 := fz_ BK168 0; have hcqgb168_1 := c1_ BK168; have hfqgb168_1 := fz_ BK168 1) | ((with_reducible refine gate_dst (N := 4) rfl ?_); refine box_event ?hg (N := 4) ?hd (cs := #[.int .i64 0, .int .i64 0]) (t := 28) ?hr ?_; (case hd => rfl); (case hg => rfl); (case hr => first | (go_simp; done) | (go_simp; rfl)); intro gb169 hg w11 hbox hb; have BK169 := Aside0.mk (hbox); have GW169 := bg_ hg; have GE169 := GW169; have NB163_169 := bm_ hg BK163; have NB169_163 := bn_ hg BK163; have NB168_169 := bm_ hg BK168; have NB169_168 := bn_ hg BK168; replace BK163 := bb_ hb BK163; replace BK168 := bb_ hb BK168; replace HB := bl_ hb; clear hb hbox hg; have hcqgb169_0 := c0_ BK169; have hfqgb169_0 := fz_ BK169 0; have hcqgb169_1 := c1_ BK169; have hfqgb169_1 := fz_ BK169 1; have hnb12 := NB168_163.out; have hnc12 := NB163_168.out; have hnb13 := NB168_169.out; have hnc13 := NB169_168.out; have hcz14_0 := c0_ BK168; have hcz14_1 := c1_ BK168; have hfz14_0 := fz_ BK168 0; have hfz14_1 := fz_ BK168 1; have hnb15 := NB169_163.out; have hnc15 := NB163_169.out; have hcz16_0 := c0_ BK169; have hcz16_1 := c1_ BK169; have hfz16_0 := fz_ BK169 0; have hfz16_1 := fz_ BK169 1; have hcz17_0 := c0_ BK163; have hcz17_1 := c1_ BK163; have hfz17_0 := fz_ BK163 0; have hfz17_1 := fz_ BK163 1) | ((with_reducible refine gate_callee (f := 13) rfl ?_); refine goesL_ (some 20) rfl rfl Try.func13 (by kernel_rfl) rfl #[.agg #[.int .u64 (Go.bits .andNot .u64 a0_0 a0_1), .int .u64 a0_1]] rfl (by (try simp only [List.map_toArray, List.map_cons, List.map_nil]); first | done | rfl) ?_; (with_reducible refine (lockgateref04_FromT.calls (Go.bits .andNot .u64 a0_0 a0_1) a0_1 t170 t171 t172 t173 _ A3.out).mono ?_); rintro e w18 ⟨rfl, hb⟩; refine ⟨_, rfl, ?_⟩; replace BK163 := Aside0.mk (blk_below (g := gb163) (o := .cells #[.int .u64 (Go.bits .andNot .u64 a0_0 a0_1), .int .u64 a0_1] 24 (0, 0)) (by (with_reducible repeat (first | apply bN_ | apply bD_ | apply bA_)); refine blk_far ?_ NB163_169.out _; (with_reducible repeat (first | apply bN_ | apply bD_ | apply bA_)); refine blk_far ?_ NB163_169.out _; (with_reducible repeat (first | apply bN_ | apply bD_ | apply bA_)); refine blk_far ?_ NB163_168.out _; (with_reducible repeat (first | apply bN_ | apply bD_ | apply bA_)); refine blk_far ?_ NB163_168.out _; (with_reducible repeat (first | apply bN_ | apply bD_ | apply bA_)); exact BK163.out) hb); replace BK168 := Aside0.mk (blk_below (g := gb168) (o := .cells #[.int .u64 t164, .int .u64 t165] 26 (0, 0)) (by (with_reducible repeat (first | apply bN_ | apply bD_ | apply bA_)); refine blk_far ?_ NB168_169.out _; (with_reducible repeat (first | apply bN_ | apply bD_ | apply bA_)); refine blk_far ?_ NB168_169.out _; (with_reducible repeat (first | apply bN_ | apply bD_ | apply bA_)); refine blk_put (cs := #[.int .u64 t164, .int .u64 0]) ?_ 1 _ rfl; (with_reducible repeat (first | apply bN_ | apply bD_ | apply bA_)); refine blk_put (cs := #[.int .u64 0, .int .u64 0]) ?_ 0 _ rfl; (with_reducible repeat (first | apply bN_ | apply bD_ | apply bA_)); exact BK168.out) hb); replace BK169 := Aside0.mk (blk_below (g := gb169) (o := .cells #[.int .i64 t166, .int .i64 t167] 28 (0, 0)) (by (with_reducible repeat (first | apply bN_ | apply bD_ | apply bA_)); refine blk_put (cs := #[.int .i64 t166, .int .i64 0]) ?_ 1 _ rfl; (with_reducible repeat (first | apply bN_ | apply bD_ | apply bA_)); refine blk_put (cs := #[.int .i64 0, .int .i64 0]) ?_ 0 _ rfl; (with_reducible repeat (first | apply bN_ | apply bD_ | apply bA_)); refine blk_far ?_ NB169_168.out _; (with_reducible repeat (first | apply bN_ | apply bD_ | apply bA_)); refine blk_far ?_ NB169_168.out _; (with_reducible repeat (first | apply bN_ | apply bD_ | apply bA_)); exact BK169.out) hb); replace HB := bl_ hb; (try clear hb); (try clear hb2); (try clear hk); (try clear hi)) | ((with_reducible refine gate_dst (N := 5) rfl ?_); refine box_event ?hg (N := 5) ?hd (cs := #[.int .u64 0, .int .u64 0]) (t := 26) ?hr ?_; (case hd => rfl); (case hg => rfl); (case hr => first | (go_simp; done) | (go_simp; rfl)); intro gb174 hg w19 hbox hb; have BK174 := Aside0.mk (hbox); have GW174 := bg_ hg; have GE174 := GW174; have NB163_174 := bm_ hg BK163; have NB174_163 := bn_ hg BK163; have NB168_174 := bm_ hg BK168; have NB174_168 := bn_ hg BK168; have NB169_174 := bm_ hg BK169; have NB174_169 := bn_ hg BK169; replace BK163 := bb_ hb BK163; replace BK168 := bb_ hb BK168; replace BK169 := bb_ hb BK169; replace HB := bl_ hb; clear hb hbox hg; have hcqgb174_0 := c0_ BK174; have hfqgb174_0 := fz_ BK174 0; have hcqgb174_1 := c1_ BK174; have hfqgb174_1 := fz_ BK174 1) | ((with_reducible refine gate_dst (N := 6) rfl ?_); refine box_event ?hg (N := 6) ?hd (cs := #[.int .i64 0, .int .i64 0]) (t := 28) ?hr ?_; (case hd => rfl); (case hg => rfl); (case hr => first | (go_simp; done) | (go_simp; rfl)); intro gb175 hg w20 hbox hb; have BK175 := Aside0.mk (hbox); have GW175 := bg_ hg; have GE175 := GW175; have NB163_175 := bm_ hg BK163; have NB175_163 := bn_ hg BK163; have NB168_175 := bm_ hg BK168; have NB175_168 := bn_ hg BK168; have NB169_175 := bm_ hg BK169; have NB175_169 := bn_ hg BK169; have NB174_175 := bm_ hg BK174; have NB175_174 := bn_ hg BK174; replace BK163 := bb_ hb BK163; replace BK168 := bb_ hb BK168; replace BK169 := bb_ hb BK169; replace BK174 := bb_ hb BK174; replace HB := bl_ hb; clear hb hbox hg; have hcqgb175_0 := c0_ BK175; have hfqgb175_0 := fz_ BK175 0; have hcqgb175_1 := c1_ BK175; have hfqgb175_1 := fz_ BK175 1; have hnb21 := NB174_163.out; have hnc21 := NB163_174.out; have hnb22 := NB174_168.out; have hnc22 := NB168_174.out; have hnb23 := NB174_169.out; have hnc23 := NB169_174.out; have hnb24 := NB174_175.out; have hnc24 := NB175_174.out; have hcz25_0 := c0_ BK174; have hcz25_1 := c1_ BK174; have hfz25_0 := fz_ BK174 0; have hfz25_1 := fz_ BK174 1; have hnb26 := NB175_163.out; have hnc26 := NB163_175.out; have hnb27 := NB175_168.out; have hnc27 := NB168_175.out; have hnb28 := NB175_169.out; have hnc28 := NB169_175.out; have hcz29_0 := c0_ BK175; have hcz29_1 := c1_ BK175; have hfz29_0 := fz_ BK175 0; have hfz29_1 := fz_ BK175 1; have hcz30_0 := c0_ BK168; have hcz30_1 := c1_ BK168; have hfz30_0 := fz_ BK168 0; have hfz30_1 := fz_ BK168 1; have hcz31_0 := c0_ BK169; have hcz31_1 := c1_ BK169; have hfz31_0 := fz_ BK169 0; have hfz31_1 := fz_ BK169 1) | (go_at_call 14; (with_reducible refine (lockgatelaw04_works.calls k  t176 _ A6.out).mono ?_); rintro e w32 ⟨rfl, hb⟩; replace BK163 := Aside0.mk (blk_below (g := gb163) (o := .cells #[.int .u64 (Go.bits .andNot .u64 a0_0 a0_1), .int .u64 a0_1] 24 (0, 0)) (by (with_reducible repeat (first | apply bN_ | apply bD_ | apply bA_)); refine blk_far ?_ NB163_175.out _; (with_reducible repeat (first | apply bN_ | apply bD_ | apply bA_)); refine blk_far ?_ NB163_175.out _; (with_reducible repeat (first | apply bN_ | apply bD_ | apply bA_)); refine blk_far ?_ NB163_174.out _; (with_reducible repeat (first | apply bN_ | apply bD_ | apply bA_)); refine blk_far ?_ NB163_174.out _; (with_reducible repeat (first | apply bN_ | apply bD_ | apply bA_)); exact BK163.out) hb); replace BK168 := Aside0.mk (blk_below (g := gb168) (o := .cells #[.int .u64 t164, .int .u64 t165] 26 (0, 0)) (by (with_reducible repeat (first | apply bN_ | apply bD_ | apply bA_)); refine blk_far ?_ NB168_175.out _; (with_reducible repeat (first | apply bN_ | apply bD_ | apply bA_)); refine blk_far ?_ NB168_175.out _; (with_reducible repeat (first | apply bN_ | apply bD_ | apply bA_)); refine blk_far ?_ NB168_174.out _; (with_reducible repeat (first | apply bN_ | apply bD_ | apply bA_)); refine blk_far ?_ NB168_174.out _; (with_reducible repeat (first | apply bN_ | apply bD_ | apply bA_)); exact BK168.out) hb); replace BK169 := Aside0.mk (blk_below (g := gb169) (o := .cells #[.int .i64 t166, .int .i64 t167] 28 (0, 0)) (by (with_reducible repeat (first | apply bN_ | apply bD_ | apply bA_)); refine blk_far ?_ NB169_175.out _; (with_reducible repeat (first | apply bN_ | apply bD_ | apply bA_)); refine blk_far ?_ NB169_175.out _; (with_reducible repeat (first | apply bN_ | apply bD_ | apply bA_)); refine blk_far ?_ NB169_174.out _; (with_reducible repeat (first | apply bN_ | apply bD_ | apply bA_)); refine blk_far ?_ NB169_174.out _; (with_reducible repeat (first | apply bN_ | apply bD_ | apply bA_)); exact BK169.out) hb); replace BK174 := Aside0.mk (blk_below (g := gb174) (o := .cells #[.int .u64 t170, .int .u64 t171] 26 (0, 0)) (by (with_reducible repeat (first | apply bN_ | apply bD_ | apply bA_)); refine blk_far ?_ NB174_175.out _; (with_reducible repeat (first | apply bN_ | apply bD_ | apply bA_)); refine blk_far ?_ NB174_175.out _; (with_reducible repeat (first | apply bN_ | apply bD_ | apply bA_)); refine blk_put (cs := #[.int .u64 t170, .int .u64 0]) ?_ 1 _ rfl; (with_reducible repeat (first | apply bN_ | apply bD_ | apply bA_)); refine blk_put (cs := #[.int .u64 0, .int .u64 0]) ?_ 0 _ rfl; (with_reducible repeat (first | apply bN_ | apply bD_ | apply bA_)); exact BK174.out) hb); replace BK175 := Aside0.mk (blk_below (g := gb175) (o := .cells #[.int .i64 t172, .int .i64 t173] 28 (0, 0)) (by (with_reducible repeat (first | apply bN_ | apply bD_ | apply bA_)); refine blk_put (cs := #[.int .i64 t172, .int .i64 0]) ?_ 1 _ rfl; (with_reducible repeat (first | apply bN_ | apply bD_ | apply bA_)); refine blk_put (cs := #[.int .i64 0, .int .i64 0]) ?_ 0 _ rfl; (with_reducible repeat (first | apply bN_ | apply bD_ | apply bA_)); refine blk_far ?_ NB175_174.out _; (with_reducible repeat (first | apply bN_ | apply bD_ | apply bA_)); refine blk_far ?_ NB175_174.out _; (with_reducible repeat (first | apply bN_ | apply bD_ | apply bA_)); exact BK175.out) hb); replace HB := bl_ hb; (try clear hb); (try clear hb2); (try clear hk); (try clear hi)))
   go_ret
   exact ⟨vv_, bz_⟩
  ·rw [if_neg c5] at H
   have c5b0 : (t166 == t172 && (t167 == t173)) = false := by simpa using c5
   (try (have c5b1 : decide (t166 = t172 && (t167 == t173)) = false := by simpa using c5))
   (try (have c5b2 : (t166 == t172 && (t167 == t173)) = false := by simpa using c5))
   (try (have c5b3 : ¬ (t166 = t172 && (t167 == t173)) := by simpa using c5))
   clear c5
   exact absurd ((Option.some.inj H).trans HRT.out) (by decide)
 ·rw [if_neg c4] at H
  have c4b0 : (t164 == t170 && (t165 == t171)) = false := by simpa using c4
  (try (have c4b1 : decide (t164 = t170 && (t165 == t171)) = false := by simpa using c4))
  (try (have c4b2 : (t164 == t170 && (t165 == t171)) = false := by simpa using c4))
  (try (have c4b3 : ¬ (t164 = t170 && (t165 == t171)) := by simpa using c4))
  clear c4
  exact absurd ((Option.some.inj H).trans HRT.out) (by decide)

end Go.Proofs.Ytnephcecobocdaa.PA
