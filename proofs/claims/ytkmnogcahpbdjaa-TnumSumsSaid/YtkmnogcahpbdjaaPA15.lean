-- PRINTED by print.py (a twelfth state) out of the translation. Not trusted: Lean checks it.
import Derived.Test.YtkmnogcahpbdjaaPA0
import Derived.Test.YtkmnogcahpbdjaaPA1
import Derived.Test.YtkmnogcahpbdjaaPA2
import Derived.Test.YtkmnogcahpbdjaaPA3
import Derived.Test.YtkmnogcahpbdjaaPA4
import Derived.Test.YtkmnogcahpbdjaaPA7
import Derived.Test.YtkmnogcahpbdjaaPA13
namespace Go.Proofs.Ytkmnogcahpbdjaa.PA
open Go.RowKit Go.Proofs.YtkmnogcahpbdjaaW.PrintWords Go.Proofs.YtkmnogcahpbdjaaW.PrintLast Go.Proofs.YtkmnogcahpbdjaaW.PrintMore
attribute [local go_sem] max2_int min2_int max_two min_two max_three min_three max_four min_four   -- for this text's walks alone
set_option linter.defProp false
def bN_15 := @blk_drewN
def bD_15 := @blk_drew
def bA_15 := @blk_alloc
def lA_15 := @below_alloc
def lN_15 := @pw_below_drewN
def lD_15 := @below_drew1
def lS_15 := @below_set
set_option linter.unusedVariables false
set_option linter.unusedSimpArgs false

attribute [local go_sem high] eqA24
/-! ### lockgatelaw03_TnumSums: function 4 -/
def lockgatelaw03_TnumSums.f (k : Nat) (a0_0 : Int) (a0_1 : Int) (a1_0 : Int) (a1_1 : Int) : Option (Bool) := (lockgatelaw03_May.f a0_0 a0_1).bind fun bt212 => ((lockgatelaw03_May.f a1_0 a1_1).bind fun bt214 => ((tnum_Add.f bt212.1 bt212.2 bt214.1 bt214.2).bind fun bt216 => ((lockgateref03_Add.f bt212.1 bt212.2 bt214.1 bt214.2).bind fun bt218 => (if (bt216.1 == bt218.1 && (bt216.2 == bt218.2)) = true then ((tnum_Sub.f bt212.1 bt212.2 bt214.1 bt214.2).bind fun bt220 => ((lockgateref03_Sub.f bt212.1 bt212.2 bt214.1 bt214.2).bind fun bt222 => (if (bt220.1 == bt222.1 && (bt220.2 == bt222.2)) = true then ((tnum_Mul.f k bt212.1 bt212.2 bt214.1 bt214.2).bind fun bt224 => ((lockgateref03_Mul.f k bt212.1 bt212.2 bt214.1 bt214.2).bind fun bt226 => (if (bt224.1 == bt226.1 && (bt224.2 == bt226.2)) = true then ((lockgatelaw03_known.f k).bind fun t228 => (some t228)) else (some false)))) else (some false)))) else (some false)))))
theorem lockgatelaw03_TnumSums.mono : ∀ a0 a1 a2 a3 k, LeO (lockgatelaw03_TnumSums.f k a0 a1 a2 a3) (lockgatelaw03_TnumSums.f (k + 1) a0 a1 a2 a3) := by
  intro a0 a1 a2 a3 k
  unfold lockgatelaw03_TnumSums.f
  repeat' first
      | (with_reducible exact lockgatelaw03_known.mono _)
      | (with_reducible exact lockgateref03_Mul.mono _ _ _ _ _)
      | (with_reducible exact tnum_Mul.mono _ _ _ _ _)
      | (with_reducible exact LeO.refl _)
      | (with_reducible exact LeO.none _)
      | (with_reducible refine LeO.ite ?_ ?_)
      | (with_reducible refine LeO.bind ?_ (fun _ => ?_))
      | exact lockgatelaw03_known.mono _
      | exact lockgateref03_Mul.mono _ _ _ _ _
      | exact tnum_Mul.mono _ _ _ _ _
      | exact LeO.none _
      | refine LeO.ite ?_ ?_
      | refine LeO.bind ?_ (fun _ => ?_)
def lockgatelaw03_TnumSums.T3 : Bool × List (List Nat × List Nat) := (true, [([], []), ([], []), ([0, 1], [0, 1]), ([], []), ([], []), ([3, 4, 2], [3, 4]), ([2, 5], [2, 5]), ([6, 5], [6]), ([7], [7]), ([7], [7]), ([8, 9, 7, 7], [7, 8, 9]), ([7], [7]), ([7], [7]), ([11, 12, 10, 7], [7, 11, 12]), ([10, 13, 7], [7, 10, 13]), ([7, 14], [7, 14]), ([15, 13], [15]), ([16], [16]), ([16], [16]), ([17, 18, 16, 16], [16, 17, 18]), ([16], [16]), ([16], [16]), ([20, 21, 19, 16], [16, 20, 21]), ([19, 22, 16], [16, 19, 22]), ([16, 23], [16, 23]), ([24, 22], [24]), ([25, 25], [25]), ([25, 26], [25, 26]), ([27, 26, 0, 1, 2, 3, 4, 5, 6, 7, 8, 9, 10, 11, 12, 13, 14, 15, 16, 17, 18, 19, 20, 21, 22, 23, 24, 25, 26, 27], [27])])
def lockgatelaw03_TnumSums.B3 : List Nat := [0, 0, 3, 0, 0, 31, 63, 127, 255, 255, 1023, 255, 255, 8191, 16383, 32767, 65535, 131071, 131071, 524287, 131071, 131071, 4194303, 8388607, 16777215, 33554431, 67108863, 134217727, 268435455]
theorem lockgatelaw03_TnumSums.tab3 : rtab .any (opsOf Try.f4 3) = lockgatelaw03_TnumSums.T3 := by kernel_rfl
theorem lockgatelaw03_TnumSums.bits3 : waitsOk lockgatelaw03_TnumSums.T3.2 lockgatelaw03_TnumSums.B3 = true := by kernel_rfl
set_option maxHeartbeats 8000000 in
set_option maxRecDepth 100000 in
theorem lockgatelaw03_TnumSums.calls (k : Nat) (a0_0 : Int) (a0_1 : Int) (a1_0 : Int) (a1_1 : Int) (r : Bool) (w : World) (HRT : Aside0 (r = true)) (h : lockgatelaw03_TnumSums.f k a0_0 a0_1 a1_0 a1_1 = some r) :
    Calls Try.prog 4 #[.agg #[.int .u64 a0_0, .int .u64 a0_1], .agg #[.int .u64 a1_0, .int .u64 a1_1]] w fun e w' => e = .returned (.bool r) ∧ Below w.heap.size w w' := by
  have hu24 := Try.underlying24
  have HB := Aside0.mk (Below.refl w.heap.size w)
  have H : ((lockgatelaw03_May.f a0_0 a0_1).bind fun bt212 => ((lockgatelaw03_May.f a1_0 a1_1).bind fun bt214 => ((tnum_Add.f bt212.1 bt212.2 bt214.1 bt214.2).bind fun bt216 => ((lockgateref03_Add.f bt212.1 bt212.2 bt214.1 bt214.2).bind fun bt218 => (if (bt216.1 == bt218.1 && (bt216.2 == bt218.2)) = true then ((tnum_Sub.f bt212.1 bt212.2 bt214.1 bt214.2).bind fun bt220 => ((lockgateref03_Sub.f bt212.1 bt212.2 bt214.1 bt214.2).bind fun bt222 => (if (bt220.1 == bt222.1 && (bt220.2 == bt222.2)) = true then ((tnum_Mul.f k bt212.1 bt212.2 bt214.1 bt214.2).bind fun bt224 => ((lockgateref03_Mul.f k bt212.1 bt212.2 bt214.1 bt214.2).bind fun bt226 => (if (bt224.1 == bt226.1 && (bt224.2 == bt226.2)) = true then ((lockgatelaw03_known.f k).bind fun t228 => (some t228)) else (some false)))) else (some false)))) else (some false)))))) = some r := h
  clear h
  replace H := Option.bind_eq_some_iff.mp H
  obtain ⟨⟨t212, t213⟩, A30, H⟩ := H
  replace H : ((lockgatelaw03_May.f a1_0 a1_1).bind fun bt214 => ((tnum_Add.f t212 t213 bt214.1 bt214.2).bind fun bt216 => ((lockgateref03_Add.f t212 t213 bt214.1 bt214.2).bind fun bt218 => (if (bt216.1 == bt218.1 && (bt216.2 == bt218.2)) = true then ((tnum_Sub.f t212 t213 bt214.1 bt214.2).bind fun bt220 => ((lockgateref03_Sub.f t212 t213 bt214.1 bt214.2).bind fun bt222 => (if (bt220.1 == bt222.1 && (bt220.2 == bt222.2)) = true then ((tnum_Mul.f k t212 t213 bt214.1 bt214.2).bind fun bt224 => ((lockgateref03_Mul.f k t212 t213 bt214.1 bt214.2).bind fun bt226 => (if (bt224.1 == bt226.1 && (bt224.2 == bt226.2)) = true then ((lockgatelaw03_known.f k).bind fun t228 => (some t228)) else (some false)))) else (some false)))) else (some false))))) = some r := H
  have A3 := Aside0.mk A30
  clear A30
  replace H := Option.bind_eq_some_iff.mp H
  obtain ⟨⟨t214, t215⟩, A40, H⟩ := H
  replace H : ((tnum_Add.f t212 t213 t214 t215).bind fun bt216 => ((lockgateref03_Add.f t212 t213 t214 t215).bind fun bt218 => (if (bt216.1 == bt218.1 && (bt216.2 == bt218.2)) = true then ((tnum_Sub.f t212 t213 t214 t215).bind fun bt220 => ((lockgateref03_Sub.f t212 t213 t214 t215).bind fun bt222 => (if (bt220.1 == bt222.1 && (bt220.2 == bt222.2)) = true then ((tnum_Mul.f k t212 t213 t214 t215).bind fun bt224 => ((lockgateref03_Mul.f k t212 t213 t214 t215).bind fun bt226 => (if (bt224.1 == bt226.1 && (bt224.2 == bt226.2)) = true then ((lockgatelaw03_known.f k).bind fun t228 => (some t228)) else (some false)))) else (some false)))) else (some false)))) = some r := H
  have A4 := Aside0.mk A40
  clear A40
  replace H := Option.bind_eq_some_iff.mp H
  obtain ⟨⟨t216, t217⟩, A50, H⟩ := H
  replace H : ((lockgateref03_Add.f t212 t213 t214 t215).bind fun bt218 => (if (t216 == bt218.1 && (t217 == bt218.2)) = true then ((tnum_Sub.f t212 t213 t214 t215).bind fun bt220 => ((lockgateref03_Sub.f t212 t213 t214 t215).bind fun bt222 => (if (bt220.1 == bt222.1 && (bt220.2 == bt222.2)) = true then ((tnum_Mul.f k t212 t213 t214 t215).bind fun bt224 => ((lockgateref03_Mul.f k t212 t213 t214 t215).bind fun bt226 => (if (bt224.1 == bt226.1 && (bt224.2 == bt226.2)) = true then ((lockgatelaw03_known.f k).bind fun t228 => (some t228)) else (some false)))) else (some false)))) else (some false))) = some r := H
  have A5 := Aside0.mk A50
  clear A50
  replace H := Option.bind_eq_some_iff.mp H
  obtain ⟨⟨t218, t219⟩, A60, H⟩ := H
  replace H : (if (t216 == t218 && (t217 == t219)) = true then ((tnum_Sub.f t212 t213 t214 t215).bind fun bt220 => ((lockgateref03_Sub.f t212 t213 t214 t215).bind fun bt222 => (if (bt220.1 == bt222.1 && (bt220.2 == bt222.2)) = true then ((tnum_Mul.f k t212 t213 t214 t215).bind fun bt224 => ((lockgateref03_Mul.f k t212 t213 t214 t215).bind fun bt226 => (if (bt224.1 == bt226.1 && (bt224.2 == bt226.2)) = true then ((lockgatelaw03_known.f k).bind fun t228 => (some t228)) else (some false)))) else (some false)))) else (some false)) = some r := H
  have A6 := Aside0.mk A60
  clear A60
  by_cases c7 : (t216 == t218 && (t217 == t219)) = true
  · rw [if_pos c7] at H
    have c7b0 : (t216 == t218 && (t217 == t219)) = true := c7
    (try (have c7b1 : decide (t216 = t218 && (t217 == t219)) = true := by simpa using c7))
    (try (have c7b2 : (t216 == t218 && (t217 == t219)) = true := by simpa using c7))
    clear c7
    replace H := Option.bind_eq_some_iff.mp H
    obtain ⟨⟨t220, t221⟩, A80, H⟩ := H
    replace H : ((lockgateref03_Sub.f t212 t213 t214 t215).bind fun bt222 => (if (t220 == bt222.1 && (t221 == bt222.2)) = true then ((tnum_Mul.f k t212 t213 t214 t215).bind fun bt224 => ((lockgateref03_Mul.f k t212 t213 t214 t215).bind fun bt226 => (if (bt224.1 == bt226.1 && (bt224.2 == bt226.2)) = true then ((lockgatelaw03_known.f k).bind fun t228 => (some t228)) else (some false)))) else (some false))) = some r := H
    have A8 := Aside0.mk A80
    clear A80
    replace H := Option.bind_eq_some_iff.mp H
    obtain ⟨⟨t222, t223⟩, A90, H⟩ := H
    replace H : (if (t220 == t222 && (t221 == t223)) = true then ((tnum_Mul.f k t212 t213 t214 t215).bind fun bt224 => ((lockgateref03_Mul.f k t212 t213 t214 t215).bind fun bt226 => (if (bt224.1 == bt226.1 && (bt224.2 == bt226.2)) = true then ((lockgatelaw03_known.f k).bind fun t228 => (some t228)) else (some false)))) else (some false)) = some r := H
    have A9 := Aside0.mk A90
    clear A90
    by_cases c10 : (t220 == t222 && (t221 == t223)) = true
    · rw [if_pos c10] at H
      have c10b0 : (t220 == t222 && (t221 == t223)) = true := c10
      (try (have c10b1 : decide (t220 = t222 && (t221 == t223)) = true := by simpa using c10))
      (try (have c10b2 : (t220 == t222 && (t221 == t223)) = true := by simpa using c10))
      clear c10
      replace H := Option.bind_eq_some_iff.mp H
      obtain ⟨⟨t224, t225⟩, A110, H⟩ := H
      replace H : ((lockgateref03_Mul.f k t212 t213 t214 t215).bind fun bt226 => (if (t224 == bt226.1 && (t225 == bt226.2)) = true then ((lockgatelaw03_known.f k).bind fun t228 => (some t228)) else (some false))) = some r := H
      have A11 := Aside0.mk A110
      clear A110
      replace H := Option.bind_eq_some_iff.mp H
      obtain ⟨⟨t226, t227⟩, A120, H⟩ := H
      replace H : (if (t224 == t226 && (t225 == t227)) = true then ((lockgatelaw03_known.f k).bind fun t228 => (some t228)) else (some false)) = some r := H
      have A12 := Aside0.mk A120
      clear A120
      by_cases c13 : (t224 == t226 && (t225 == t227)) = true
      · rw [if_pos c13] at H
        have c13b0 : (t224 == t226 && (t225 == t227)) = true := c13
        (try (have c13b1 : decide (t224 = t226 && (t225 == t227)) = true := by simpa using c13))
        (try (have c13b2 : (t224 == t226 && (t225 == t227)) = true := by simpa using c13))
        clear c13
        replace H := Option.bind_eq_some_iff.mp H
        obtain ⟨t228, A140, H⟩ := H
        replace H : (some t228) = some r := H
        have A14 := Aside0.mk A140
        clear A140
        obtain rfl := Option.some.inj H
        go_enter Try.func4, Try.ntmps4
        try go_wp2_with (first | ((with_reducible refine gate_dst (N := 2) rfl ?_); refine box_event ?hg (N := 2) ?hd (cs := #[.int .u64 a0_0, .int .u64 a0_1]) (t := 24) ?hr ?_; (case hd => rfl); (case hg => rfl); (case hr => first | (go_simp; done) | (go_simp; rfl)); intro gb210 hg w15 hbox hb; have n0_ := Aside0.mk (below_step (by repeat (first | (with_reducible first | exact HB.out | apply lA_15 | apply lN_15 | apply lD_15) | exact HB.out)) hb); have n1_ := Aside0.mk (hbox); have n2_ := Aside0.mk ((by rw [hg]; exact (below_size (by repeat (first | (with_reducible first | exact HB.out | apply lA_15 | apply lN_15 | apply lD_15) | exact HB.out))) : w.heap.size ≤ gb210)); have n3_ := Aside0.mk ((by rw [hg]; exact (below_size (by repeat (first | (with_reducible first | exact HB.out | apply lA_15 | apply lN_15 | apply lD_15) | exact HB.out))) : w.heap.size ≤ gb210)); clear HB; have HB := n0_; have BK210 := n1_; have GW210 := n2_; have GE210 := n3_; clear n0_ n1_ n2_ n3_; clear hb hbox hg) | ((with_reducible refine gate_dst (N := 3) rfl ?_); refine box_event ?hg (N := 3) ?hd (cs := #[.int .u64 a1_0, .int .u64 a1_1]) (t := 24) ?hr ?_; (case hd => rfl); (case hg => rfl); (case hr => first | (go_simp; done) | (go_simp; rfl)); intro gb211 hg w16 hbox hb; have n0_ := Aside0.mk (blk_below (g := gb210) (o := .cells #[.int .u64 a0_0, .int .u64 a0_1] 24 (0, 0)) (by (with_reducible repeat (first | apply bN_15 | apply bD_15 | apply bA_15)); exact BK210.out) hb); have n1_ := Aside0.mk (below_step (by repeat (first | (with_reducible first | exact HB.out | apply lA_15 | apply lN_15 | apply lD_15 | refine lS_15 ?_ GE210.out) | exact HB.out)) hb); have n2_ := Aside0.mk (hbox); have n3_ := Aside0.mk ((by rw [hg]; exact (below_size (by repeat (first | (with_reducible first | exact HB.out | apply lA_15 | apply lN_15 | apply lD_15 | refine lS_15 ?_ GE210.out) | exact HB.out))) : w.heap.size ≤ gb211)); have n4_ := Aside0.mk ((by rw [hg]; exact (below_size (by repeat (first | (with_reducible first | exact HB.out | apply lA_15 | apply lN_15 | apply lD_15 | refine lS_15 ?_ GE210.out) | exact HB.out))) : w.heap.size ≤ gb211)); have n5_ := Aside0.mk ((by rw [hg]; exact Nat.ne_of_lt (blk_lt (g := gb210) (o := .cells #[.int .u64 a0_0, .int .u64 a0_1] 24 (0, 0)) (by (with_reducible repeat (first | apply bN_15 | apply bD_15 | apply bA_15)); exact BK210.out)) : gb210 ≠ gb211)); have n6_ := Aside0.mk ((by rw [hg]; exact Nat.ne_of_gt (blk_lt (g := gb210) (o := .cells #[.int .u64 a0_0, .int .u64 a0_1] 24 (0, 0)) (by (with_reducible repeat (first | apply bN_15 | apply bD_15 | apply bA_15)); exact BK210.out)) : gb211 ≠ gb210)); clear BK210; clear HB; have BK210 := n0_; have HB := n1_; have BK211 := n2_; have GW211 := n3_; have GE211 := n4_; have NB210_211 := n5_; have NB211_210 := n6_; clear n0_ n1_ n2_ n3_ n4_ n5_ n6_; clear hb hbox hg; have hnb17 := NB210_211.out; have hnc17 := NB211_210.out; have hcz18_0 : w16.cell? ⟨gb210, 0, none⟩ = some (.int .u64 a0_0) := (blk_cell BK210.out 0).trans rfl; have hcz18_1 : w16.cell? ⟨gb210, 1, none⟩ = some (.int .u64 a0_1) := (blk_cell BK210.out 1).trans rfl; have hfz18_0 := blk_frozen BK210.out 0; have hfz18_1 := blk_frozen BK210.out 1) | ((with_reducible refine gate_callee (f := 12) rfl ?_); refine goesL_ (some 6) rfl rfl Try.func12 (by kernel_rfl) rfl #[.agg #[.int .u64 a0_0, .int .u64 a0_1]] rfl (by (try simp only [List.map_toArray, List.map_cons, List.map_nil]); first | done | rfl) ?_; (with_reducible refine (lockgatelaw03_May.calls a0_0 a0_1 t212 t213 _ A3.out).mono ?_); rintro e w19 ⟨rfl, hb⟩; refine ⟨_, rfl, ?_⟩; have n0_ := Aside0.mk (blk_below (g := gb210) (o := .cells #[.int .u64 a0_0, .int .u64 a0_1] 24 (0, 0)) (by (with_reducible repeat (first | apply bN_15 | apply bD_15 | apply bA_15)); exact BK210.out) hb); have n1_ := Aside0.mk (blk_below (g := gb211) (o := .cells #[.int .u64 a1_0, .int .u64 a1_1] 24 (0, 0)) (by (with_reducible repeat (first | apply bN_15 | apply bD_15 | apply bA_15)); exact BK211.out) hb); have n2_ := Aside0.mk (below_step (by repeat (first | (with_reducible first | exact HB.out | apply lA_15 | apply lN_15 | apply lD_15 | refine lS_15 ?_ GE210.out | refine lS_15 ?_ GE211.out) | exact HB.out)) hb); clear BK210; clear BK211; clear HB; have BK210 := n0_; have BK211 := n1_; have HB := n2_; clear n0_ n1_ n2_; (try clear hb); (try clear hb2); (try clear hk); (try clear hi); have hcz20_0 : w19.cell? ⟨gb210, 0, none⟩ = some (.int .u64 a0_0) := (blk_cell BK210.out 0).trans rfl; have hcz20_1 : w19.cell? ⟨gb210, 1, none⟩ = some (.int .u64 a0_1) := (blk_cell BK210.out 1).trans rfl; have hfz20_0 := blk_frozen BK210.out 0; have hfz20_1 := blk_frozen BK210.out 1; have hcz21_0 : w19.cell? ⟨gb211, 0, none⟩ = some (.int .u64 a1_0) := (blk_cell BK211.out 0).trans rfl; have hcz21_1 : w19.cell? ⟨gb211, 1, none⟩ = some (.int .u64 a1_1) := (blk_cell BK211.out 1).trans rfl; have hfz21_0 := blk_frozen BK211.out 0; have hfz21_1 := blk_frozen BK211.out 1) | ((with_reducible refine gate_callee (f := 12) rfl ?_); refine goesL_ (some 8) rfl rfl Try.func12 (by kernel_rfl) rfl #[.agg #[.int .u64 a1_0, .int .u64 a1_1]] rfl (by (try simp only [List.map_toArray, List.map_cons, List.map_nil]); first | done | rfl) ?_; (with_reducible refine (lockgatelaw03_May.calls a1_0 a1_1 t214 t215 _ A4.out).mono ?_); rintro e w22 ⟨rfl, hb⟩; refine ⟨_, rfl, ?_⟩; have n0_ := Aside0.mk (blk_below (g := gb210) (o := .cells #[.int .u64 t212, .int .u64 t213] 24 (0, 0)) (by (with_reducible repeat (first | apply bN_15 | apply bD_15 | apply bA_15)); refine blk_put (cs := #[.int .u64 t212, .int .u64 a0_1]) ?_ 1 _ rfl; (with_reducible repeat (first | apply bN_15 | apply bD_15 | apply bA_15)); refine blk_put (cs := #[.int .u64 a0_0, .int .u64 a0_1]) ?_ 0 _ rfl; (with_reducible repeat (first | apply bN_15 | apply bD_15 | apply bA_15)); exact BK210.out) hb); have n1_ := Aside0.mk (blk_below (g := gb211) (o := .cells #[.int .u64 a1_0, .int .u64 a1_1] 24 (0, 0)) (by (with_reducible repeat (first | apply bN_15 | apply bD_15 | apply bA_15)); refine blk_far ?_ NB211_210.out _; (with_reducible repeat (first | apply bN_15 | apply bD_15 | apply bA_15)); refine blk_far ?_ NB211_210.out _; (with_reducible repeat (first | apply bN_15 | apply bD_15 | apply bA_15)); exact BK211.out) hb); have n2_ := Aside0.mk (below_step (by repeat (first | (with_reducible first | exact HB.out | apply lA_15 | apply lN_15 | apply lD_15 | refine lS_15 ?_ GE210.out | refine lS_15 ?_ GE211.out) | exact HB.out)) hb); clear BK210; clear BK211; clear HB; have BK210 := n0_; have BK211 := n1_; have HB := n2_; clear n0_ n1_ n2_; (try clear hb); (try clear hb2); (try clear hk); (try clear hi); have hcz23_0 : w22.cell? ⟨gb211, 0, none⟩ = some (.int .u64 a1_0) := (blk_cell BK211.out 0).trans rfl; have hcz23_1 : w22.cell? ⟨gb211, 1, none⟩ = some (.int .u64 a1_1) := (blk_cell BK211.out 1).trans rfl; have hfz23_0 := blk_frozen BK211.out 0; have hfz23_1 := blk_frozen BK211.out 1))
        have n0_ : Aside0 (((w22.setCell ⟨gb211, 0, none⟩ (.int .u64 t214)).setCell ⟨gb211, 1, none⟩ (.int .u64 t215)).heap[gb210]? = some (.cells #[.int .u64 t212, .int .u64 t213] 24 (0, 0))) := ⟨by (with_reducible repeat (first | apply bN_15 | apply bD_15 | apply bA_15)); refine blk_far ?_ NB210_211.out _; (with_reducible repeat (first | apply bN_15 | apply bD_15 | apply bA_15)); refine blk_far ?_ NB210_211.out _; (with_reducible repeat (first | apply bN_15 | apply bD_15 | apply bA_15)); exact BK210.out⟩
        have n1_ : Aside0 (((w22.setCell ⟨gb211, 0, none⟩ (.int .u64 t214)).setCell ⟨gb211, 1, none⟩ (.int .u64 t215)).heap[gb211]? = some (.cells #[.int .u64 t214, .int .u64 t215] 24 (0, 0))) := ⟨by (with_reducible repeat (first | apply bN_15 | apply bD_15 | apply bA_15)); refine blk_put (cs := #[.int .u64 t214, .int .u64 a1_1]) ?_ 1 _ rfl; (with_reducible repeat (first | apply bN_15 | apply bD_15 | apply bA_15)); refine blk_put (cs := #[.int .u64 a1_0, .int .u64 a1_1]) ?_ 0 _ rfl; (with_reducible repeat (first | apply bN_15 | apply bD_15 | apply bA_15)); exact BK211.out⟩
        have n2_ : Aside0 (Below w.heap.size w ((w22.setCell ⟨gb211, 0, none⟩ (.int .u64 t214)).setCell ⟨gb211, 1, none⟩ (.int .u64 t215))) := ⟨by repeat (first | (with_reducible first | exact HB.out | apply lA_15 | apply lN_15 | apply lD_15 | refine lS_15 ?_ GE210.out | refine lS_15 ?_ GE211.out) | exact HB.out)⟩
        (try clear BK210)
        (try clear BK211)
        (try clear HB)
        generalize ((w22.setCell ⟨gb211, 0, none⟩ (.int .u64 t214)).setCell ⟨gb211, 1, none⟩ (.int .u64 t215)) = w24 at n0_ n1_ n2_ ⊢
        have BK210 := n0_
        have BK211 := n1_
        have HB := n2_
        clear n0_ n1_ n2_
        have n0_ := Aside0.mk (blk_drew BK210.out)
        have n1_ := Aside0.mk (blk_drew BK211.out)
        have n2_ := Aside0.mk (below_drew1 HB.out)
        clear BK210
        clear BK211
        clear HB
        have BK210 := n0_
        have BK211 := n1_
        have HB := n2_
        clear n0_ n1_ n2_
        refine start_ (n := 29) (S := fun w' => w'.cell? ⟨gb210, 0, none⟩ = some (.int .u64 t212) ∧ w'.cell? ⟨gb210, 1, none⟩ = some (.int .u64 t213) ∧ w'.cell? ⟨gb211, 0, none⟩ = some (.int .u64 t214) ∧ w'.cell? ⟨gb211, 1, none⟩ = some (.int .u64 t215)) (ds := []) #[false, false, false, false, false, false, false, false, false, false, false, false, false, false, false, false, false, false, false, false, false, false, false, false, false, false, false, false, false] (by kernel_rfl) rfl rfl ⟨(blk_cell BK210.out 0).trans rfl, (blk_cell BK210.out 1).trans rfl, (blk_cell BK211.out 0).trans rfl, (blk_cell BK211.out 1).trans rfl⟩ (fun hHeld => ?_); refine with_tabW lockgatelaw03_TnumSums.tab3 lockgatelaw03_TnumSums.bits3 (fun HT_ HW_ => ?_)
        generalize w24.drew = w25 at BK210 BK211 HB hHeld ⊢
        refine take_ (i := 0) (N := some 9) (v := ?_) (a' := ?_) #[true, false, false, false, false, false, false, false, false, false, false, false, false, false, false, false, false, false, false, false, false, false, false, false, false, false, false, false, false] rfl rfl (take_ofW HT_.out HW_.out (by kernel_rfl)) (fun _ _ _ h => h) (Or.inl ⟨by rfl, ?_⟩) hHeld ?_ ?_
        rotate_left
        · rintro w' ⟨s0, s1, s2, s3⟩
          go_simp
          with_reducible rfl
        rotate_left
        · simp only [Act.put, List.setIfInBounds_toArray, List.set_cons_zero, List.set_cons_succ, i64_w, i32_w]
          rfl
        refine take_ (i := 1) (N := some 10) (v := ?_) (a' := ?_) #[true, true, false, false, false, false, false, false, false, false, false, false, false, false, false, false, false, false, false, false, false, false, false, false, false, false, false, false, false] rfl rfl (take_ofW HT_.out HW_.out (by kernel_rfl)) (fun _ _ _ h => h) (Or.inl ⟨by rfl, ?_⟩) hHeld ?_ ?_
        rotate_left
        · rintro w' ⟨s0, s1, s2, s3⟩
          go_simp
          with_reducible rfl
        rotate_left
        · simp only [Act.put, List.setIfInBounds_toArray, List.set_cons_zero, List.set_cons_succ, i64_w, i32_w]
          rfl
        refine take_ (i := 3) (N := some 12) (v := ?_) (a' := ?_) #[true, true, false, true, false, false, false, false, false, false, false, false, false, false, false, false, false, false, false, false, false, false, false, false, false, false, false, false, false] rfl rfl (take_ofW HT_.out HW_.out (by kernel_rfl)) (fun _ _ _ h => h) (Or.inl ⟨by rfl, ?_⟩) hHeld ?_ ?_
        rotate_left
        · rintro w' ⟨s0, s1, s2, s3⟩
          go_simp
          with_reducible rfl
        rotate_left
        · simp only [Act.put, List.setIfInBounds_toArray, List.set_cons_zero, List.set_cons_succ, i64_w, i32_w]
          rfl
        refine take_ (i := 4) (N := some 13) (v := ?_) (a' := ?_) #[true, true, false, true, true, false, false, false, false, false, false, false, false, false, false, false, false, false, false, false, false, false, false, false, false, false, false, false, false] rfl rfl (take_ofW HT_.out HW_.out (by kernel_rfl)) (fun _ _ _ h => h) (Or.inl ⟨by rfl, ?_⟩) hHeld ?_ ?_
        rotate_left
        · rintro w' ⟨s0, s1, s2, s3⟩
          go_simp
          with_reducible rfl
        rotate_left
        · simp only [Act.put, List.setIfInBounds_toArray, List.set_cons_zero, List.set_cons_succ, i64_w, i32_w]
          rfl
        refine one_ (i := 2) (N := some 11) #[true, true, true, true, true, false, false, false, false, false, false, false, false, false, false, false, false, false, false, false, false, false, false, false, false, false, false, false, false] rfl rfl (one_of HT_.out (by kernel_rfl)) (by decide) (fun K hK => ?_)
        refine goes_ Try.func17 (by kernel_rfl) rfl #[.agg #[.int .u64 t212, .int .u64 t213], .agg #[.int .u64 t214, .int .u64 t215]] (by rfl) rfl rfl (by (try simp only [List.map_toArray, List.map_cons, List.map_nil]); first | done | rfl) ?_
        with_reducible refine (tnum_Add.calls t212 t213 t214 t215 t216 t217 _ A5.out).mono ?_
        rintro e w26 ⟨rfl, hb⟩
        refine ⟨_, rfl, ?_⟩
        have n0_ := Aside0.mk (blk_below (g := gb210) (o := .cells #[.int .u64 t212, .int .u64 t213] 24 (0, 0)) (by (with_reducible repeat (first | apply bN_15 | apply bD_15 | apply bA_15)); exact BK210.out) hb)
        have n1_ := Aside0.mk (blk_below (g := gb211) (o := .cells #[.int .u64 t214, .int .u64 t215] 24 (0, 0)) (by (with_reducible repeat (first | apply bN_15 | apply bD_15 | apply bA_15)); exact BK211.out) hb)
        have n2_ := Aside0.mk (below_step (by repeat (first | (with_reducible first | exact HB.out | apply lA_15 | apply lN_15 | apply lD_15 | refine lS_15 ?_ GE210.out | refine lS_15 ?_ GE211.out) | exact HB.out)) hb)
        clear BK210
        clear BK211
        clear HB
        have BK210 := n0_
        have BK211 := n1_
        have HB := n2_
        clear n0_ n1_ n2_
        (try clear hb)
        (try clear hb2)
        (try clear hk)
        (try clear hi)
        refine hK.out _ _ ⟨(blk_cell BK210.out 0).trans rfl, (blk_cell BK210.out 1).trans rfl, (blk_cell BK211.out 0).trans rfl, (blk_cell BK211.out 1).trans rfl⟩ (fun hHeld => ?_)
        clear hK K
        refine norm_ (a' := ?_) ?_ ?_
        rotate_left
        · show Act.put _ (some 11) _ = _
          simp only [Act.put, List.setIfInBounds_toArray, List.set_cons_zero, List.set_cons_succ, i64_w, i32_w]
          rfl
        refine one_ (i := 5) (N := some 14) #[true, true, true, true, true, true, false, false, false, false, false, false, false, false, false, false, false, false, false, false, false, false, false, false, false, false, false, false, false] rfl rfl (one_of HT_.out (by kernel_rfl)) (by decide) (fun K hK => ?_)
        refine goes_ Try.func18 (by kernel_rfl) rfl #[.agg #[.int .u64 t212, .int .u64 t213], .agg #[.int .u64 t214, .int .u64 t215]] (by rfl) rfl rfl (by (try simp only [List.map_toArray, List.map_cons, List.map_nil]); first | done | rfl) ?_
        with_reducible refine (lockgateref03_Add.calls t212 t213 t214 t215 t218 t219 _ A6.out).mono ?_
        rintro e w27 ⟨rfl, hb⟩
        refine ⟨_, rfl, ?_⟩
        have n0_ := Aside0.mk (blk_below (g := gb210) (o := .cells #[.int .u64 t212, .int .u64 t213] 24 (0, 0)) (by (with_reducible repeat (first | apply bN_15 | apply bD_15 | apply bA_15)); exact BK210.out) hb)
        have n1_ := Aside0.mk (blk_below (g := gb211) (o := .cells #[.int .u64 t214, .int .u64 t215] 24 (0, 0)) (by (with_reducible repeat (first | apply bN_15 | apply bD_15 | apply bA_15)); exact BK211.out) hb)
        have n2_ := Aside0.mk (below_step (by repeat (first | (with_reducible first | exact HB.out | apply lA_15 | apply lN_15 | apply lD_15 | refine lS_15 ?_ GE210.out | refine lS_15 ?_ GE211.out) | exact HB.out)) hb)
        clear BK210
        clear BK211
        clear HB
        have BK210 := n0_
        have BK211 := n1_
        have HB := n2_
        clear n0_ n1_ n2_
        (try clear hb)
        (try clear hb2)
        (try clear hk)
        (try clear hi)
        refine hK.out _ _ ⟨(blk_cell BK210.out 0).trans rfl, (blk_cell BK210.out 1).trans rfl, (blk_cell BK211.out 0).trans rfl, (blk_cell BK211.out 1).trans rfl⟩ (fun hHeld => ?_)
        clear hK K
        refine norm_ (a' := ?_) ?_ ?_
        rotate_left
        · show Act.put _ (some 14) _ = _
          simp only [Act.put, List.setIfInBounds_toArray, List.set_cons_zero, List.set_cons_succ, i64_w, i32_w]
          rfl
        refine pure_ (i := 6) (N := some 15) (v := ?_) (a' := ?_) #[true, true, true, true, true, true, true, false, false, false, false, false, false, false, false, false, false, false, false, false, false, false, false, false, false, false, false, false, false] rfl rfl (any_of HT_.out (by kernel_rfl)) (fun _ _ _ h => h) (Or.inl ⟨by rfl, ?_⟩) ?_ ?_
        rotate_left
        · intro w'
          go_simp
          with_reducible rfl
        rotate_left
        · simp only [Act.put, List.setIfInBounds_toArray, List.set_cons_zero, List.set_cons_succ, i64_w, i32_w]
          rfl
        refine pure_ (i := 7) (N := some 16) (v := ?_) (a' := ?_) #[true, true, true, true, true, true, true, true, false, false, false, false, false, false, false, false, false, false, false, false, false, false, false, false, false, false, false, false, false] rfl rfl (any_of HT_.out (by kernel_rfl)) (fun _ _ _ h => h) (Or.inl ⟨by rfl, ?_⟩) ?_ ?_
        rotate_left
        · intro w'
          go_simp
          with_reducible rfl
        rotate_left
        · simp only [Act.put, List.setIfInBounds_toArray, List.set_cons_zero, List.set_cons_succ, i64_w, i32_w]
          rfl
        refine take_ (i := 8) (N := some 17) (v := ?_) (a' := ?_) #[true, true, true, true, true, true, true, true, true, false, false, false, false, false, false, false, false, false, false, false, false, false, false, false, false, false, false, false, false] rfl rfl (take_ofW HT_.out HW_.out (by kernel_rfl)) (fun _ _ _ h => h) (Or.inl ⟨by rfl, ?_⟩) hHeld ?_ ?_
        rotate_left
        · rintro w' ⟨s0, s1, s2, s3⟩
          go_simp
          with_reducible rfl
        rotate_left
        · simp only [Act.put, List.setIfInBounds_toArray, List.set_cons_zero, List.set_cons_succ, i64_w, i32_w]
          rfl
        refine take_ (i := 9) (N := some 18) (v := ?_) (a' := ?_) #[true, true, true, true, true, true, true, true, true, true, false, false, false, false, false, false, false, false, false, false, false, false, false, false, false, false, false, false, false] rfl rfl (take_ofW HT_.out HW_.out (by kernel_rfl)) (fun _ _ _ h => h) (Or.inl ⟨by rfl, ?_⟩) hHeld ?_ ?_
        rotate_left
        · rintro w' ⟨s0, s1, s2, s3⟩
          go_simp
          with_reducible rfl
        rotate_left
        · simp only [Act.put, List.setIfInBounds_toArray, List.set_cons_zero, List.set_cons_succ, i64_w, i32_w]
          rfl
        refine take_ (i := 11) (N := some 20) (v := ?_) (a' := ?_) #[true, true, true, true, true, true, true, true, true, true, false, true, false, false, false, false, false, false, false, false, false, false, false, false, false, false, false, false, false] rfl rfl (take_ofW HT_.out HW_.out (by kernel_rfl)) (fun _ _ _ h => h) (Or.inl ⟨by rfl, ?_⟩) hHeld ?_ ?_
        rotate_left
        · rintro w' ⟨s0, s1, s2, s3⟩
          go_simp
          with_reducible rfl
        rotate_left
        · simp only [Act.put, List.setIfInBounds_toArray, List.set_cons_zero, List.set_cons_succ, i64_w, i32_w]
          rfl
        refine take_ (i := 12) (N := some 21) (v := ?_) (a' := ?_) #[true, true, true, true, true, true, true, true, true, true, false, true, true, false, false, false, false, false, false, false, false, false, false, false, false, false, false, false, false] rfl rfl (take_ofW HT_.out HW_.out (by kernel_rfl)) (fun _ _ _ h => h) (Or.inl ⟨by rfl, ?_⟩) hHeld ?_ ?_
        rotate_left
        · rintro w' ⟨s0, s1, s2, s3⟩
          go_simp
          with_reducible rfl
        rotate_left
        · simp only [Act.put, List.setIfInBounds_toArray, List.set_cons_zero, List.set_cons_succ, i64_w, i32_w]
          rfl
        refine one_ (i := 10) (N := some 19) #[true, true, true, true, true, true, true, true, true, true, true, true, true, false, false, false, false, false, false, false, false, false, false, false, false, false, false, false, false] rfl rfl (one_of HT_.out (by kernel_rfl)) (by decide) (fun K hK => ?_)
        refine goes_ Try.func19 (by kernel_rfl) rfl #[.agg #[.int .u64 t212, .int .u64 t213], .agg #[.int .u64 t214, .int .u64 t215]] (by rfl) rfl rfl (by (try simp only [List.map_toArray, List.map_cons, List.map_nil]); first | done | rfl) ?_
        with_reducible refine (tnum_Sub.calls t212 t213 t214 t215 t220 t221 _ A8.out).mono ?_
        rintro e w28 ⟨rfl, hb⟩
        refine ⟨_, rfl, ?_⟩
        have n0_ := Aside0.mk (blk_below (g := gb210) (o := .cells #[.int .u64 t212, .int .u64 t213] 24 (0, 0)) (by (with_reducible repeat (first | apply bN_15 | apply bD_15 | apply bA_15)); exact BK210.out) hb)
        have n1_ := Aside0.mk (blk_below (g := gb211) (o := .cells #[.int .u64 t214, .int .u64 t215] 24 (0, 0)) (by (with_reducible repeat (first | apply bN_15 | apply bD_15 | apply bA_15)); exact BK211.out) hb)
        have n2_ := Aside0.mk (below_step (by repeat (first | (with_reducible first | exact HB.out | apply lA_15 | apply lN_15 | apply lD_15 | refine lS_15 ?_ GE210.out | refine lS_15 ?_ GE211.out) | exact HB.out)) hb)
        clear BK210
        clear BK211
        clear HB
        have BK210 := n0_
        have BK211 := n1_
        have HB := n2_
        clear n0_ n1_ n2_
        (try clear hb)
        (try clear hb2)
        (try clear hk)
        (try clear hi)
        refine hK.out _ _ ⟨(blk_cell BK210.out 0).trans rfl, (blk_cell BK210.out 1).trans rfl, (blk_cell BK211.out 0).trans rfl, (blk_cell BK211.out 1).trans rfl⟩ (fun hHeld => ?_)
        clear hK K
        refine norm_ (a' := ?_) ?_ ?_
        rotate_left
        · show Act.put _ (some 19) _ = _
          simp only [Act.put, List.setIfInBounds_toArray, List.set_cons_zero, List.set_cons_succ, i64_w, i32_w]
          rfl
        refine one_ (i := 13) (N := some 22) #[true, true, true, true, true, true, true, true, true, true, true, true, true, true, false, false, false, false, false, false, false, false, false, false, false, false, false, false, false] rfl rfl (one_of HT_.out (by kernel_rfl)) (by decide) (fun K hK => ?_)
        refine goes_ Try.func20 (by kernel_rfl) rfl #[.agg #[.int .u64 t212, .int .u64 t213], .agg #[.int .u64 t214, .int .u64 t215]] (by rfl) rfl rfl (by (try simp only [List.map_toArray, List.map_cons, List.map_nil]); first | done | rfl) ?_
        with_reducible refine (lockgateref03_Sub.calls t212 t213 t214 t215 t222 t223 _ A9.out).mono ?_
        rintro e w29 ⟨rfl, hb⟩
        refine ⟨_, rfl, ?_⟩
        have n0_ := Aside0.mk (blk_below (g := gb210) (o := .cells #[.int .u64 t212, .int .u64 t213] 24 (0, 0)) (by (with_reducible repeat (first | apply bN_15 | apply bD_15 | apply bA_15)); exact BK210.out) hb)
        have n1_ := Aside0.mk (blk_below (g := gb211) (o := .cells #[.int .u64 t214, .int .u64 t215] 24 (0, 0)) (by (with_reducible repeat (first | apply bN_15 | apply bD_15 | apply bA_15)); exact BK211.out) hb)
        have n2_ := Aside0.mk (below_step (by repeat (first | (with_reducible first | exact HB.out | apply lA_15 | apply lN_15 | apply lD_15 | refine lS_15 ?_ GE210.out | refine lS_15 ?_ GE211.out) | exact HB.out)) hb)
        clear BK210
        clear BK211
        clear HB
        have BK210 := n0_
        have BK211 := n1_
        have HB := n2_
        clear n0_ n1_ n2_
        (try clear hb)
        (try clear hb2)
        (try clear hk)
        (try clear hi)
        refine hK.out _ _ ⟨(blk_cell BK210.out 0).trans rfl, (blk_cell BK210.out 1).trans rfl, (blk_cell BK211.out 0).trans rfl, (blk_cell BK211.out 1).trans rfl⟩ (fun hHeld => ?_)
        clear hK K
        refine norm_ (a' := ?_) ?_ ?_
        rotate_left
        · show Act.put _ (some 22) _ = _
          simp only [Act.put, List.setIfInBounds_toArray, List.set_cons_zero, List.set_cons_succ, i64_w, i32_w]
          rfl
        refine pure_ (i := 14) (N := some 23) (v := ?_) (a' := ?_) #[true, true, true, true, true, true, true, true, true, true, true, true, true, true, true, false, false, false, false, false, false, false, false, false, false, false, false, false, false] rfl rfl (any_of HT_.out (by kernel_rfl)) (fun _ _ _ h => h) (Or.inl ⟨by rfl, ?_⟩) ?_ ?_
        rotate_left
        · intro w'
          go_simp
          with_reducible rfl
        rotate_left
        · simp only [Act.put, List.setIfInBounds_toArray, List.set_cons_zero, List.set_cons_succ, i64_w, i32_w]
          rfl
        refine pure_ (i := 15) (N := some 24) (v := ?_) (a' := ?_) #[true, true, true, true, true, true, true, true, true, true, true, true, true, true, true, true, false, false, false, false, false, false, false, false, false, false, false, false, false] rfl rfl (any_of HT_.out (by kernel_rfl)) (fun _ _ _ h => h) (Or.inl ⟨by rfl, ?_⟩) ?_ ?_
        rotate_left
        · intro w'
          go_simp
          with_reducible rfl
        rotate_left
        · simp only [Act.put, List.setIfInBounds_toArray, List.set_cons_zero, List.set_cons_succ, i64_w, i32_w]
          rfl
        refine pure_ (i := 16) (N := some 25) (v := ?_) (a' := ?_) #[true, true, true, true, true, true, true, true, true, true, true, true, true, true, true, true, true, false, false, false, false, false, false, false, false, false, false, false, false] rfl rfl (any_of HT_.out (by kernel_rfl)) (fun _ _ _ h => h) (Or.inl ⟨by rfl, ?_⟩) ?_ ?_
        rotate_left
        · intro w'
          go_simp
          with_reducible rfl
        rotate_left
        · simp only [Act.put, List.setIfInBounds_toArray, List.set_cons_zero, List.set_cons_succ, i64_w, i32_w]
          rfl
        refine take_ (i := 17) (N := some 26) (v := ?_) (a' := ?_) #[true, true, true, true, true, true, true, true, true, true, true, true, true, true, true, true, true, true, false, false, false, false, false, false, false, false, false, false, false] rfl rfl (take_ofW HT_.out HW_.out (by kernel_rfl)) (fun _ _ _ h => h) (Or.inl ⟨by rfl, ?_⟩) hHeld ?_ ?_
        rotate_left
        · rintro w' ⟨s0, s1, s2, s3⟩
          go_simp
          with_reducible rfl
        rotate_left
        · simp only [Act.put, List.setIfInBounds_toArray, List.set_cons_zero, List.set_cons_succ, i64_w, i32_w]
          rfl
        refine take_ (i := 18) (N := some 27) (v := ?_) (a' := ?_) #[true, true, true, true, true, true, true, true, true, true, true, true, true, true, true, true, true, true, true, false, false, false, false, false, false, false, false, false, false] rfl rfl (take_ofW HT_.out HW_.out (by kernel_rfl)) (fun _ _ _ h => h) (Or.inl ⟨by rfl, ?_⟩) hHeld ?_ ?_
        rotate_left
        · rintro w' ⟨s0, s1, s2, s3⟩
          go_simp
          with_reducible rfl
        rotate_left
        · simp only [Act.put, List.setIfInBounds_toArray, List.set_cons_zero, List.set_cons_succ, i64_w, i32_w]
          rfl
        refine take_ (i := 20) (N := some 29) (v := ?_) (a' := ?_) #[true, true, true, true, true, true, true, true, true, true, true, true, true, true, true, true, true, true, true, false, true, false, false, false, false, false, false, false, false] rfl rfl (take_ofW HT_.out HW_.out (by kernel_rfl)) (fun _ _ _ h => h) (Or.inl ⟨by rfl, ?_⟩) hHeld ?_ ?_
        rotate_left
        · rintro w' ⟨s0, s1, s2, s3⟩
          go_simp
          with_reducible rfl
        rotate_left
        · simp only [Act.put, List.setIfInBounds_toArray, List.set_cons_zero, List.set_cons_succ, i64_w, i32_w]
          rfl
        refine take_ (i := 21) (N := some 30) (v := ?_) (a' := ?_) #[true, true, true, true, true, true, true, true, true, true, true, true, true, true, true, true, true, true, true, false, true, true, false, false, false, false, false, false, false] rfl rfl (take_ofW HT_.out HW_.out (by kernel_rfl)) (fun _ _ _ h => h) (Or.inl ⟨by rfl, ?_⟩) hHeld ?_ ?_
        rotate_left
        · rintro w' ⟨s0, s1, s2, s3⟩
          go_simp
          with_reducible rfl
        rotate_left
        · simp only [Act.put, List.setIfInBounds_toArray, List.set_cons_zero, List.set_cons_succ, i64_w, i32_w]
          rfl
        refine one_ (i := 19) (N := some 28) #[true, true, true, true, true, true, true, true, true, true, true, true, true, true, true, true, true, true, true, true, true, true, false, false, false, false, false, false, false] rfl rfl (one_of HT_.out (by kernel_rfl)) (by decide) (fun K hK => ?_)
        refine goes_ Try.func21 (by kernel_rfl) rfl #[.agg #[.int .u64 t212, .int .u64 t213], .agg #[.int .u64 t214, .int .u64 t215]] (by rfl) rfl rfl (by (try simp only [List.map_toArray, List.map_cons, List.map_nil]); first | done | rfl) ?_
        with_reducible refine (tnum_Mul.calls k t212 t213 t214 t215 t224 t225 _ A11.out).mono ?_
        rintro e w30 ⟨rfl, hb⟩
        refine ⟨_, rfl, ?_⟩
        have n0_ := Aside0.mk (blk_below (g := gb210) (o := .cells #[.int .u64 t212, .int .u64 t213] 24 (0, 0)) (by (with_reducible repeat (first | apply bN_15 | apply bD_15 | apply bA_15)); exact BK210.out) hb)
        have n1_ := Aside0.mk (blk_below (g := gb211) (o := .cells #[.int .u64 t214, .int .u64 t215] 24 (0, 0)) (by (with_reducible repeat (first | apply bN_15 | apply bD_15 | apply bA_15)); exact BK211.out) hb)
        have n2_ := Aside0.mk (below_step (by repeat (first | (with_reducible first | exact HB.out | apply lA_15 | apply lN_15 | apply lD_15 | refine lS_15 ?_ GE210.out | refine lS_15 ?_ GE211.out) | exact HB.out)) hb)
        clear BK210
        clear BK211
        clear HB
        have BK210 := n0_
        have BK211 := n1_
        have HB := n2_
        clear n0_ n1_ n2_
        (try clear hb)
        (try clear hb2)
        (try clear hk)
        (try clear hi)
        refine hK.out _ _ ⟨(blk_cell BK210.out 0).trans rfl, (blk_cell BK210.out 1).trans rfl, (blk_cell BK211.out 0).trans rfl, (blk_cell BK211.out 1).trans rfl⟩ (fun hHeld => ?_)
        clear hK K
        refine norm_ (a' := ?_) ?_ ?_
        rotate_left
        · show Act.put _ (some 28) _ = _
          simp only [Act.put, List.setIfInBounds_toArray, List.set_cons_zero, List.set_cons_succ, i64_w, i32_w]
          rfl
        refine one_ (i := 22) (N := some 31) #[true, true, true, true, true, true, true, true, true, true, true, true, true, true, true, true, true, true, true, true, true, true, true, false, false, false, false, false, false] rfl rfl (one_of HT_.out (by kernel_rfl)) (by decide) (fun K hK => ?_)
        refine goes_ Try.func22 (by kernel_rfl) rfl #[.agg #[.int .u64 t212, .int .u64 t213], .agg #[.int .u64 t214, .int .u64 t215]] (by rfl) rfl rfl (by (try simp only [List.map_toArray, List.map_cons, List.map_nil]); first | done | rfl) ?_
        with_reducible refine (lockgateref03_Mul.calls k t212 t213 t214 t215 t226 t227 _ A12.out).mono ?_
        rintro e w31 ⟨rfl, hb⟩
        refine ⟨_, rfl, ?_⟩
        have n0_ := Aside0.mk (blk_below (g := gb210) (o := .cells #[.int .u64 t212, .int .u64 t213] 24 (0, 0)) (by (with_reducible repeat (first | apply bN_15 | apply bD_15 | apply bA_15)); exact BK210.out) hb)
        have n1_ := Aside0.mk (blk_below (g := gb211) (o := .cells #[.int .u64 t214, .int .u64 t215] 24 (0, 0)) (by (with_reducible repeat (first | apply bN_15 | apply bD_15 | apply bA_15)); exact BK211.out) hb)
        have n2_ := Aside0.mk (below_step (by repeat (first | (with_reducible first | exact HB.out | apply lA_15 | apply lN_15 | apply lD_15 | refine lS_15 ?_ GE210.out | refine lS_15 ?_ GE211.out) | exact HB.out)) hb)
        clear BK210
        clear BK211
        clear HB
        have BK210 := n0_
        have BK211 := n1_
        have HB := n2_
        clear n0_ n1_ n2_
        (try clear hb)
        (try clear hb2)
        (try clear hk)
        (try clear hi)
        refine hK.out _ _ ⟨(blk_cell BK210.out 0).trans rfl, (blk_cell BK210.out 1).trans rfl, (blk_cell BK211.out 0).trans rfl, (blk_cell BK211.out 1).trans rfl⟩ (fun hHeld => ?_)
        clear hK K
        refine norm_ (a' := ?_) ?_ ?_
        rotate_left
        · show Act.put _ (some 31) _ = _
          simp only [Act.put, List.setIfInBounds_toArray, List.set_cons_zero, List.set_cons_succ, i64_w, i32_w]
          rfl
        refine pure_ (i := 23) (N := some 32) (v := ?_) (a' := ?_) #[true, true, true, true, true, true, true, true, true, true, true, true, true, true, true, true, true, true, true, true, true, true, true, true, false, false, false, false, false] rfl rfl (any_of HT_.out (by kernel_rfl)) (fun _ _ _ h => h) (Or.inl ⟨by rfl, ?_⟩) ?_ ?_
        rotate_left
        · intro w'
          go_simp
          with_reducible rfl
        rotate_left
        · simp only [Act.put, List.setIfInBounds_toArray, List.set_cons_zero, List.set_cons_succ, i64_w, i32_w]
          rfl
        refine pure_ (i := 24) (N := some 33) (v := ?_) (a' := ?_) #[true, true, true, true, true, true, true, true, true, true, true, true, true, true, true, true, true, true, true, true, true, true, true, true, true, false, false, false, false] rfl rfl (any_of HT_.out (by kernel_rfl)) (fun _ _ _ h => h) (Or.inl ⟨by rfl, ?_⟩) ?_ ?_
        rotate_left
        · intro w'
          go_simp
          with_reducible rfl
        rotate_left
        · simp only [Act.put, List.setIfInBounds_toArray, List.set_cons_zero, List.set_cons_succ, i64_w, i32_w]
          rfl
        refine pure_ (i := 25) (N := some 34) (v := ?_) (a' := ?_) #[true, true, true, true, true, true, true, true, true, true, true, true, true, true, true, true, true, true, true, true, true, true, true, true, true, true, false, false, false] rfl rfl (any_of HT_.out (by kernel_rfl)) (fun _ _ _ h => h) (Or.inl ⟨by rfl, ?_⟩) ?_ ?_
        rotate_left
        · intro w'
          go_simp
          with_reducible rfl
        rotate_left
        · simp only [Act.put, List.setIfInBounds_toArray, List.set_cons_zero, List.set_cons_succ, i64_w, i32_w]
          rfl
        refine one_ (i := 26) (N := some 35) #[true, true, true, true, true, true, true, true, true, true, true, true, true, true, true, true, true, true, true, true, true, true, true, true, true, true, true, false, false] rfl rfl (one_of HT_.out (by kernel_rfl)) (by decide) (fun K hK => ?_)
        refine goes_ Try.func16 (by kernel_rfl) rfl #[] (by rfl) rfl rfl (by (try simp only [List.map_toArray, List.map_cons, List.map_nil]); first | done | rfl) ?_
        with_reducible refine (lockgatelaw03_known.calls k  t228 _ A14.out).mono ?_
        rintro e w32 ⟨rfl, hb⟩
        refine ⟨_, rfl, ?_⟩
        have n0_ := Aside0.mk (blk_below (g := gb210) (o := .cells #[.int .u64 t212, .int .u64 t213] 24 (0, 0)) (by (with_reducible repeat (first | apply bN_15 | apply bD_15 | apply bA_15)); exact BK210.out) hb)
        have n1_ := Aside0.mk (blk_below (g := gb211) (o := .cells #[.int .u64 t214, .int .u64 t215] 24 (0, 0)) (by (with_reducible repeat (first | apply bN_15 | apply bD_15 | apply bA_15)); exact BK211.out) hb)
        have n2_ := Aside0.mk (below_step (by repeat (first | (with_reducible first | exact HB.out | apply lA_15 | apply lN_15 | apply lD_15 | refine lS_15 ?_ GE210.out | refine lS_15 ?_ GE211.out) | exact HB.out)) hb)
        clear BK210
        clear BK211
        clear HB
        have BK210 := n0_
        have BK211 := n1_
        have HB := n2_
        clear n0_ n1_ n2_
        (try clear hb)
        (try clear hb2)
        (try clear hk)
        (try clear hi)
        refine hK.out _ _ ⟨(blk_cell BK210.out 0).trans rfl, (blk_cell BK210.out 1).trans rfl, (blk_cell BK211.out 0).trans rfl, (blk_cell BK211.out 1).trans rfl⟩ (fun hHeld => ?_)
        clear hK K
        refine norm_ (a' := ?_) ?_ ?_
        rotate_left
        · show Act.put _ (some 35) _ = _
          simp only [Act.put, List.setIfInBounds_toArray, List.set_cons_zero, List.set_cons_succ, i64_w, i32_w]
          rfl
        refine pure_ (i := 27) (N := some 36) (v := ?_) (a' := ?_) #[true, true, true, true, true, true, true, true, true, true, true, true, true, true, true, true, true, true, true, true, true, true, true, true, true, true, true, true, false] rfl rfl (any_of HT_.out (by kernel_rfl)) (fun _ _ _ h => h) (Or.inl ⟨by rfl, ?_⟩) ?_ ?_
        rotate_left
        · intro w'
          go_simp
          with_reducible rfl
        rotate_left
        · simp only [Act.put, List.setIfInBounds_toArray, List.set_cons_zero, List.set_cons_succ, i64_w, i32_w]
          rfl
        refine pure_ (i := 28) (N := some 4) (v := ?_) (a' := ?_) #[true, true, true, true, true, true, true, true, true, true, true, true, true, true, true, true, true, true, true, true, true, true, true, true, true, true, true, true, true] rfl rfl (any_of HT_.out (by kernel_rfl)) (fun _ _ _ h => h) (Or.inl ⟨by rfl, ?_⟩) ?_ ?_
        rotate_left
        · intro w'
          go_simp
          with_reducible rfl
        rotate_left
        · simp only [Act.put, List.setIfInBounds_toArray, List.set_cons_zero, List.set_cons_succ, i64_w, i32_w]
          rfl
        refine done_ (done_of HT_.out (by kernel_rfl)) ?_
        try go_wp2
        go_ret
        exact ⟨by first | rfl | (simp [errW_none, errW_some] <;> rfl) | (simp [*, errW_none, errW_some] <;> rfl), by repeat (first | (with_reducible first | exact HB.out | apply lA_15 | apply lN_15 | apply lD_15 | refine lS_15 ?_ GE210.out | refine lS_15 ?_ GE211.out) | exact HB.out)⟩
      · rw [if_neg c13] at H
        have c13b0 : (t224 == t226 && (t225 == t227)) = false := by simpa using c13
        (try (have c13b1 : decide (t224 = t226 && (t225 == t227)) = false := by simpa using c13))
        (try (have c13b2 : (t224 == t226 && (t225 == t227)) = false := by simpa using c13))
        (try (have c13b3 : ¬ (t224 = t226 && (t225 == t227)) := by simpa using c13))
        clear c13
        exact absurd ((Option.some.inj H).trans HRT.out) (by decide)
    · rw [if_neg c10] at H
      have c10b0 : (t220 == t222 && (t221 == t223)) = false := by simpa using c10
      (try (have c10b1 : decide (t220 = t222 && (t221 == t223)) = false := by simpa using c10))
      (try (have c10b2 : (t220 == t222 && (t221 == t223)) = false := by simpa using c10))
      (try (have c10b3 : ¬ (t220 = t222 && (t221 == t223)) := by simpa using c10))
      clear c10
      exact absurd ((Option.some.inj H).trans HRT.out) (by decide)
  · rw [if_neg c7] at H
    have c7b0 : (t216 == t218 && (t217 == t219)) = false := by simpa using c7
    (try (have c7b1 : decide (t216 = t218 && (t217 == t219)) = false := by simpa using c7))
    (try (have c7b2 : (t216 == t218 && (t217 == t219)) = false := by simpa using c7))
    (try (have c7b3 : ¬ (t216 = t218 && (t217 == t219)) := by simpa using c7))
    clear c7
    exact absurd ((Option.some.inj H).trans HRT.out) (by decide)

end Go.Proofs.Ytkmnogcahpbdjaa.PA
