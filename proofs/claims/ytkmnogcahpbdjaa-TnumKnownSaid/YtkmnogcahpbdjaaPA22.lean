-- PRINTED by print.py (a twelfth state) out of the translation. Not trusted: Lean checks it.
import Derived.Test.YtkmnogcahpbdjaaWRepsOne
import Derived.Test.YtkmnogcahpbdjaaPA0
import Derived.Test.YtkmnogcahpbdjaaPA1
import Derived.Test.YtkmnogcahpbdjaaPA2
import Derived.Test.YtkmnogcahpbdjaaPA3
import Derived.Test.YtkmnogcahpbdjaaPA4
import Derived.Test.YtkmnogcahpbdjaaPA13
import Derived.Test.YtkmnogcahpbdjaaPA20
import Derived.Test.YtkmnogcahpbdjaaPA21
namespace Go.Proofs.Ytkmnogcahpbdjaa.PA
open Go.RowKit Go.Proofs.YtkmnogcahpbdjaaW.PrintWords Go.Proofs.YtkmnogcahpbdjaaW.PrintLast Go.Proofs.YtkmnogcahpbdjaaW.PrintMore
attribute [local go_sem] max2_int min2_int max_two min_two max_three min_three max_four min_four   -- for this text's walks alone
set_option linter.defProp false
def bN_22 := @blk_drewN
def bD_22 := @blk_drew
def bA_22 := @blk_alloc
def lA_22 := @below_alloc
def lN_22 := @pw_below_drewN
def lD_22 := @below_drew1
def lS_22 := @below_set
set_option linter.unusedVariables false
set_option linter.unusedSimpArgs false

attribute [local go_sem high] eqA24
/-! ### lockgatelaw03_TnumKnown: function 11 -/
def lockgatelaw03_TnumKnown.l0 : Nat → Bool → Bool → List Int → Int → Int → Int → Int → Int → Option (Bool)
  | 0, _, _, _, _, _, _, _, _ => none
  | k + 1, x2, x4, x6, x7, x583000, x583001, x594000, x594001 => if x7 < (x6.length : Int) then (if 0 ≤ x7 then ((lockgatelaw03_TnumAlone.f k 9223372036854775813 3 (rd x6 x7)).bind fun t598 => (if t598 = true then ((lockgatelaw03_TnumSound.f k 9223372036854775808 9 0 5 8 4 (rd x6 x7)).bind fun t600 => (if t600 = true then (lockgatelaw03_TnumKnown.l0 k x2 x4 x6 (wrap64 (x7 + 1)) x583000 x583001 x594000 x594001) else (some false))) else (some false))) else (none)) else (if x2 = true then (if (x583000 == 5 && (x583001 == 2)) = true then (if x4 = true then (some false) else (if (x594000 == 4 && (x594001 == 2)) = true then ((tnum_Of.f 4).bind fun bt601 => ((tnum_Within.f bt601.1 bt601.2 x594000 x594001).bind fun t603 => (if t603 = true then ((tnum_Of.f 1).bind fun bt604 => ((tnum_Add.f 0 1 bt604.1 bt604.2).bind fun bt606 => (if (bt606.1 == 0 && (bt606.2 == 3)) = true then ((tnum_Of.f 3).bind fun bt608 => ((tnum_Mul.f k 0 2 bt608.1 bt608.2).bind fun bt610 => (if (bt610.1 == 0 && (bt610.2 == 6)) = true then ((tnum_Any.f).bind fun bt612 => ((tnum_Cut.f bt612.1 bt612.2 0).bind fun bt614 => ((tnum_Of.f 0).bind fun bt616 => (if (bt614.1 == bt616.1 && (bt614.2 == bt616.2)) = true then ((tnum_Of.f 1).bind fun bt618 => ((tnum_Arsh.f bt618.1 bt618.2 0 16).bind fun bt620 => ((tnum_Any.f).bind fun bt622 => (if (bt620.1 == bt622.1 && (bt620.2 == bt622.2)) = true then ((lockgatelaw03_known.f k).bind fun t624 => (some t624)) else (some false))))) else (some false))))) else (some false)))) else (some false)))) else (some false)))) else (some false))) else (some false)) else (some false))
def lockgatelaw03_TnumKnown.f (k : Nat)  : Option (Bool) := (tnum_Meet.f 4 3 1 6).bind fun bt579 => ((tnum_Meet.f 4 3 0 3).bind fun bt583 => ((tnum_Of.f 4).bind fun bt587 => ((tnum_Of.f 6).bind fun bt589 => ((tnum_Join.f bt587.1 bt587.2 bt589.1 bt589.2).bind fun bt591 => (lockgatelaw03_TnumKnown.l0 k bt579.2.2 bt583.2.2 (([(-9223372036854775808), (-65), (-64), (-1), 0, 63, 64, 9223372036854775807] : List Int)) 0 bt579.1 bt579.2.1 bt591.1 bt591.2)))))
theorem lockgatelaw03_TnumKnown.mono_l : ∀ k, (∀ y0 y1 y2 y3 y4 y5 y6 y7, LeO (lockgatelaw03_TnumKnown.l0 k y0 y1 y2 y3 y4 y5 y6 y7) (lockgatelaw03_TnumKnown.l0 (k + 1) y0 y1 y2 y3 y4 y5 y6 y7))
  | 0 => fun _ _ _ _ _ _ _ _ r h => by simp [lockgatelaw03_TnumKnown.l0] at h
  | k + 1 => by
    have ih0 := lockgatelaw03_TnumKnown.mono_l k
    · intro y0 y1 y2 y3 y4 y5 y6 y7
      unfold lockgatelaw03_TnumKnown.l0
      repeat' first
      | (with_reducible exact ih0 _ _ _ _ _ _ _ _)
      | (with_reducible exact lockgatelaw03_TnumAlone.mono _ _ _ _)
      | (with_reducible exact lockgatelaw03_TnumSound.mono _ _ _ _ _ _ _ _)
      | (with_reducible exact lockgatelaw03_known.mono _)
      | (with_reducible exact tnum_Mul.mono _ _ _ _ _)
      | (with_reducible exact LeO.refl _)
      | (with_reducible exact LeO.none _)
      | (with_reducible refine LeO.ite ?_ ?_)
      | (with_reducible refine LeO.bind ?_ (fun _ => ?_))
      | exact ih0 _ _ _ _ _ _ _ _
      | exact lockgatelaw03_TnumAlone.mono _ _ _ _
      | exact lockgatelaw03_TnumSound.mono _ _ _ _ _ _ _ _
      | exact lockgatelaw03_known.mono _
      | exact tnum_Mul.mono _ _ _ _ _
      | exact LeO.none _
      | refine LeO.ite ?_ ?_
      | refine LeO.bind ?_ (fun _ => ?_)
theorem lockgatelaw03_TnumKnown.mono : ∀ k, LeO (lockgatelaw03_TnumKnown.f k ) (lockgatelaw03_TnumKnown.f (k + 1) ) := by
  intro  k
  have ih0 := lockgatelaw03_TnumKnown.mono_l k
  unfold lockgatelaw03_TnumKnown.f
  repeat' first
      | (with_reducible exact ih0 _ _ _ _ _ _ _ _)
      | (with_reducible exact lockgatelaw03_TnumAlone.mono _ _ _ _)
      | (with_reducible exact lockgatelaw03_TnumSound.mono _ _ _ _ _ _ _ _)
      | (with_reducible exact lockgatelaw03_known.mono _)
      | (with_reducible exact tnum_Mul.mono _ _ _ _ _)
      | (with_reducible exact LeO.refl _)
      | (with_reducible exact LeO.none _)
      | (with_reducible refine LeO.ite ?_ ?_)
      | (with_reducible refine LeO.bind ?_ (fun _ => ?_))
      | exact ih0 _ _ _ _ _ _ _ _
      | exact lockgatelaw03_TnumAlone.mono _ _ _ _
      | exact lockgatelaw03_TnumSound.mono _ _ _ _ _ _ _ _
      | exact lockgatelaw03_known.mono _
      | exact tnum_Mul.mono _ _ _ _ _
      | exact LeO.none _
      | refine LeO.ite ?_ ?_
      | refine LeO.bind ?_ (fun _ => ?_)
def lockgatelaw03_TnumKnown.T10 : Bool × List (List Nat × List Nat) := (true, [([], []), ([0], [0]), ([1], [1]), ([1], [1]), ([2, 3, 1], [1, 2, 3]), ([1, 4], [1, 4]), ([5, 1], [5]), ([6], [6]), ([7, 6], [6, 7]), ([6, 8], [6, 8]), ([9, 6], [9]), ([10], [10]), ([10], [10]), ([11, 12, 10], [10, 11, 12]), ([10, 13], [10, 13]), ([14, 10], [14]), ([15, 15], [15]), ([15], [15]), ([16, 17, 16, 15], [15, 16, 17]), ([15, 18], [15, 18]), ([19, 18], [19]), ([20], [20]), ([20, 20], [20]), ([21, 22, 22, 20], [20, 21, 22]), ([20], [20]), ([23, 24, 20], [20, 23, 24]), ([20, 25], [20, 25]), ([26, 23], [26]), ([27], [27]), ([27, 27], [27]), ([28, 29, 29, 27], [27, 28, 29]), ([27], [27]), ([30, 31, 27], [27, 30, 31]), ([27, 32], [27, 32]), ([33, 30], [33]), ([34, 34], [34]), ([35, 35, 34], [34, 35]), ([36, 34], [34]), ([36, 37, 34], [34, 36, 37]), ([34, 38], [34, 38]), ([39, 37], [39]), ([40, 40], [40]), ([41, 41, 40], [40, 41]), ([42, 40], [40]), ([42, 43, 40], [40, 42, 43]), ([40, 44], [40, 44]), ([45, 43], [45]), ([46, 46], [46]), ([46, 47], [46, 47]), ([48, 47, 0, 1, 2, 3, 4, 5, 6, 7, 8, 9, 10, 11, 12, 13, 14, 15, 16, 17, 18, 19, 20, 21, 22, 23, 24, 25, 26, 27, 28, 29, 30, 31, 32, 33, 34, 35, 36, 37, 38, 39, 40, 41, 42, 43, 44, 45, 46, 47, 48], [48])])
def lockgatelaw03_TnumKnown.B10 : List Nat := [0, 1, 3, 3, 15, 31, 63, 127, 255, 511, 1023, 2047, 2047, 8191, 16383, 32767, 65535, 65535, 262143, 524287, 1048575, 2097151, 2097151, 8388607, 2097151, 33554431, 67108863, 134217727, 268435455, 268435455, 1073741823, 268435455, 4294967295, 8589934591, 17179869183, 34359738367, 68719476735, 137438953471, 274877906943, 549755813887, 1099511627775, 2199023255551, 4398046511103, 8796093022207, 17592186044415, 35184372088831, 70368744177663, 140737488355327, 281474976710655, 562949953421311]
theorem lockgatelaw03_TnumKnown.tab10 : rtab .any (opsOf Try.f11 10) = lockgatelaw03_TnumKnown.T10 := by kernel_rfl
theorem lockgatelaw03_TnumKnown.bits10 : waitsOk lockgatelaw03_TnumKnown.T10.2 lockgatelaw03_TnumKnown.B10 = true := by kernel_rfl
set_option maxHeartbeats 8000000 in
set_option maxRecDepth 100000 in
theorem lockgatelaw03_TnumKnown.calls (k : Nat)  (r : Bool) (w : World) (HRT : Aside0 (r = true)) (h : lockgatelaw03_TnumKnown.f k  = some r) :
    Calls Try.prog 11 #[] w fun e w' => e = .returned (.bool r) ∧ Below w.heap.size w w' := by
  have hu24 := Try.underlying24
  have HB := Aside0.mk (Below.refl w.heap.size w)
  have H : ((tnum_Meet.f 4 3 1 6).bind fun bt579 => ((tnum_Meet.f 4 3 0 3).bind fun bt583 => ((tnum_Of.f 4).bind fun bt587 => ((tnum_Of.f 6).bind fun bt589 => ((tnum_Join.f bt587.1 bt587.2 bt589.1 bt589.2).bind fun bt591 => (lockgatelaw03_TnumKnown.l0 k bt579.2.2 bt583.2.2 (([(-9223372036854775808), (-65), (-64), (-1), 0, 63, 64, 9223372036854775807] : List Int)) 0 bt579.1 bt579.2.1 bt591.1 bt591.2)))))) = some r := h
  clear h
  replace H := Option.bind_eq_some_iff.mp H
  obtain ⟨⟨t579, t580, t581⟩, A10, H⟩ := H
  replace H : ((tnum_Meet.f 4 3 0 3).bind fun bt583 => ((tnum_Of.f 4).bind fun bt587 => ((tnum_Of.f 6).bind fun bt589 => ((tnum_Join.f bt587.1 bt587.2 bt589.1 bt589.2).bind fun bt591 => (lockgatelaw03_TnumKnown.l0 k t581 bt583.2.2 (([(-9223372036854775808), (-65), (-64), (-1), 0, 63, 64, 9223372036854775807] : List Int)) 0 t579 t580 bt591.1 bt591.2))))) = some r := H
  have A1 := Aside0.mk A10
  clear A10
  replace H := Option.bind_eq_some_iff.mp H
  obtain ⟨⟨t583, t584, t585⟩, A20, H⟩ := H
  replace H : ((tnum_Of.f 4).bind fun bt587 => ((tnum_Of.f 6).bind fun bt589 => ((tnum_Join.f bt587.1 bt587.2 bt589.1 bt589.2).bind fun bt591 => (lockgatelaw03_TnumKnown.l0 k t581 t585 (([(-9223372036854775808), (-65), (-64), (-1), 0, 63, 64, 9223372036854775807] : List Int)) 0 t579 t580 bt591.1 bt591.2)))) = some r := H
  have A2 := Aside0.mk A20
  clear A20
  replace H := Option.bind_eq_some_iff.mp H
  obtain ⟨⟨t587, t588⟩, A30, H⟩ := H
  replace H : ((tnum_Of.f 6).bind fun bt589 => ((tnum_Join.f t587 t588 bt589.1 bt589.2).bind fun bt591 => (lockgatelaw03_TnumKnown.l0 k t581 t585 (([(-9223372036854775808), (-65), (-64), (-1), 0, 63, 64, 9223372036854775807] : List Int)) 0 t579 t580 bt591.1 bt591.2))) = some r := H
  have A3 := Aside0.mk A30
  clear A30
  replace H := Option.bind_eq_some_iff.mp H
  obtain ⟨⟨t589, t590⟩, A40, H⟩ := H
  replace H : ((tnum_Join.f t587 t588 t589 t590).bind fun bt591 => (lockgatelaw03_TnumKnown.l0 k t581 t585 (([(-9223372036854775808), (-65), (-64), (-1), 0, 63, 64, 9223372036854775807] : List Int)) 0 t579 t580 bt591.1 bt591.2)) = some r := H
  have A4 := Aside0.mk A40
  clear A40
  replace H := Option.bind_eq_some_iff.mp H
  obtain ⟨⟨t591, t592⟩, A50, H⟩ := H
  replace H : (lockgatelaw03_TnumKnown.l0 k t581 t585 (([(-9223372036854775808), (-65), (-64), (-1), 0, 63, 64, 9223372036854775807] : List Int)) 0 t579 t580 t591 t592) = some r := H
  have A5 := Aside0.mk A50
  clear A50
  obtain ⟨y594, hy594⟩ : ∃ y_ : List Int, y_ = (([(-9223372036854775808), (-65), (-64), (-1), 0, 63, 64, 9223372036854775807] : List Int)) := ⟨_, rfl⟩
  replace H : (lockgatelaw03_TnumKnown.l0 k t581 t585 y594 0 t579 t580 t591 t592) = some r := by first | (rw [hy594]; with_reducible exact H) | (have H2_ := (Option.bind_some _ _).symm.trans H; rw [hy594]; with_reducible exact H2_) | (have H2_ := (Option.bind_some _ _).symm.trans H; with_reducible exact H2_) | with_reducible exact H | (rw [hy594]; exact H) | exact H
  have Ny594 := Aside0.mk hy594
  clear hy594
  have H' := Aside0.mk H
  clear H
  go_enter Try.func11, Try.ntmps11
  go_wp2_with (first | ((with_reducible refine gate_callee (f := 23) rfl ?_); refine goesL_ (some 11) rfl rfl Try.func23 (by kernel_rfl) rfl #[.agg #[.int .u64 4, .int .u64 3], .agg #[.int .u64 1, .int .u64 6]] rfl (by (try simp only [List.map_toArray, List.map_cons, List.map_nil]); first | done | rfl) ?_; (with_reducible refine (tnum_Meet.calls 4 3 1 6 t579 t580 t581 _ A1.out).mono ?_); rintro e w6 ⟨rfl, hb⟩; refine ⟨_, rfl, ?_⟩; have n0_ := Aside0.mk (below_step (by repeat (first | (with_reducible first | exact HB.out | apply lA_22 | apply lN_22 | apply lD_22) | exact HB.out)) hb); clear HB; have HB := n0_; clear n0_; (try clear hb); (try clear hb2); (try clear hk); (try clear hi)) | ((with_reducible refine gate_dst (N := 1) rfl ?_); refine box_event ?hg (N := 1) ?hd (cs := #[.int .u64 0, .int .u64 0]) (t := 24) ?hr ?_; (case hd => rfl); (case hg => rfl); (case hr => first | (go_simp; done) | (go_simp; rfl)); intro gb582 hg w7 hbox hb; have n0_ := Aside0.mk (below_step (by repeat (first | (with_reducible first | exact HB.out | apply lA_22 | apply lN_22 | apply lD_22) | exact HB.out)) hb); have n1_ := Aside0.mk (hbox); have n2_ := Aside0.mk ((by rw [hg]; exact (below_size (by repeat (first | (with_reducible first | exact HB.out | apply lA_22 | apply lN_22 | apply lD_22) | exact HB.out))) : w.heap.size ≤ gb582)); have n3_ := Aside0.mk ((by rw [hg]; exact (below_size (by repeat (first | (with_reducible first | exact HB.out | apply lA_22 | apply lN_22 | apply lD_22) | exact HB.out))) : w.heap.size ≤ gb582)); clear HB; have HB := n0_; have BK582 := n1_; have GW582 := n2_; have GE582 := n3_; clear n0_ n1_ n2_ n3_; clear hb hbox hg; have hcz8_0 : w7.cell? ⟨gb582, 0, none⟩ = some (.int .u64 0) := (blk_cell BK582.out 0).trans rfl; have hcz8_1 : w7.cell? ⟨gb582, 1, none⟩ = some (.int .u64 0) := (blk_cell BK582.out 1).trans rfl; have hfz8_0 := blk_frozen BK582.out 0; have hfz8_1 := blk_frozen BK582.out 1) | ((with_reducible refine gate_callee (f := 23) rfl ?_); refine goesL_ (some 17) rfl rfl Try.func23 (by kernel_rfl) rfl #[.agg #[.int .u64 4, .int .u64 3], .agg #[.int .u64 0, .int .u64 3]] rfl (by (try simp only [List.map_toArray, List.map_cons, List.map_nil]); first | done | rfl) ?_; (with_reducible refine (tnum_Meet.calls 4 3 0 3 t583 t584 t585 _ A2.out).mono ?_); rintro e w9 ⟨rfl, hb⟩; refine ⟨_, rfl, ?_⟩; have n0_ := Aside0.mk (blk_below (g := gb582) (o := .cells #[.int .u64 t579, .int .u64 t580] 24 (0, 0)) (by (with_reducible repeat (first | apply bN_22 | apply bD_22 | apply bA_22)); refine blk_put (cs := #[.int .u64 t579, .int .u64 0]) ?_ 1 _ rfl; (with_reducible repeat (first | apply bN_22 | apply bD_22 | apply bA_22)); refine blk_put (cs := #[.int .u64 0, .int .u64 0]) ?_ 0 _ rfl; (with_reducible repeat (first | apply bN_22 | apply bD_22 | apply bA_22)); exact BK582.out) hb); have n1_ := Aside0.mk (below_step (by repeat (first | (with_reducible first | exact HB.out | apply lA_22 | apply lN_22 | apply lD_22 | refine lS_22 ?_ GE582.out) | exact HB.out)) hb); clear BK582; clear HB; have BK582 := n0_; have HB := n1_; clear n0_ n1_; (try clear hb); (try clear hb2); (try clear hk); (try clear hi)) | ((with_reducible refine gate_dst (N := 3) rfl ?_); refine box_event ?hg (N := 3) ?hd (cs := #[.int .u64 0, .int .u64 0]) (t := 24) ?hr ?_; (case hd => rfl); (case hg => rfl); (case hr => first | (go_simp; done) | (go_simp; rfl)); intro gb586 hg w10 hbox hb; have n0_ := Aside0.mk (blk_below (g := gb582) (o := .cells #[.int .u64 t579, .int .u64 t580] 24 (0, 0)) (by (with_reducible repeat (first | apply bN_22 | apply bD_22 | apply bA_22)); exact BK582.out) hb); have n1_ := Aside0.mk (below_step (by repeat (first | (with_reducible first | exact HB.out | apply lA_22 | apply lN_22 | apply lD_22 | refine lS_22 ?_ GE582.out) | exact HB.out)) hb); have n2_ := Aside0.mk (hbox); have n3_ := Aside0.mk ((by rw [hg]; exact (below_size (by repeat (first | (with_reducible first | exact HB.out | apply lA_22 | apply lN_22 | apply lD_22 | refine lS_22 ?_ GE582.out) | exact HB.out))) : w.heap.size ≤ gb586)); have n4_ := Aside0.mk ((by rw [hg]; exact (below_size (by repeat (first | (with_reducible first | exact HB.out | apply lA_22 | apply lN_22 | apply lD_22 | refine lS_22 ?_ GE582.out) | exact HB.out))) : w.heap.size ≤ gb586)); have n5_ := Aside0.mk ((by rw [hg]; exact Nat.ne_of_lt (blk_lt (g := gb582) (o := .cells #[.int .u64 t579, .int .u64 t580] 24 (0, 0)) (by (with_reducible repeat (first | apply bN_22 | apply bD_22 | apply bA_22)); exact BK582.out)) : gb582 ≠ gb586)); have n6_ := Aside0.mk ((by rw [hg]; exact Nat.ne_of_gt (blk_lt (g := gb582) (o := .cells #[.int .u64 t579, .int .u64 t580] 24 (0, 0)) (by (with_reducible repeat (first | apply bN_22 | apply bD_22 | apply bA_22)); exact BK582.out)) : gb586 ≠ gb582)); clear BK582; clear HB; have BK582 := n0_; have HB := n1_; have BK586 := n2_; have GW586 := n3_; have GE586 := n4_; have NB582_586 := n5_; have NB586_582 := n6_; clear n0_ n1_ n2_ n3_ n4_ n5_ n6_; clear hb hbox hg; have hnb11 := NB586_582.out; have hnc11 := NB582_586.out; have hcz12_0 : w10.cell? ⟨gb586, 0, none⟩ = some (.int .u64 0) := (blk_cell BK586.out 0).trans rfl; have hcz12_1 : w10.cell? ⟨gb586, 1, none⟩ = some (.int .u64 0) := (blk_cell BK586.out 1).trans rfl; have hfz12_0 := blk_frozen BK586.out 0; have hfz12_1 := blk_frozen BK586.out 1) | ((with_reducible refine gate_callee (f := 25) rfl ?_); refine goesL_ (some 20) rfl rfl Try.func25 (by kernel_rfl) rfl #[.int .u64 4] rfl (by (try simp only [List.map_toArray, List.map_cons, List.map_nil]); first | done | rfl) ?_; (with_reducible refine (tnum_Of.calls 4 t587 t588 _ A3.out).mono ?_); rintro e w13 ⟨rfl, hb⟩; refine ⟨_, rfl, ?_⟩; have n0_ := Aside0.mk (blk_below (g := gb582) (o := .cells #[.int .u64 t579, .int .u64 t580] 24 (0, 0)) (by (with_reducible repeat (first | apply bN_22 | apply bD_22 | apply bA_22)); refine blk_far ?_ NB582_586.out _; (with_reducible repeat (first | apply bN_22 | apply bD_22 | apply bA_22)); refine blk_far ?_ NB582_586.out _; (with_reducible repeat (first | apply bN_22 | apply bD_22 | apply bA_22)); exact BK582.out) hb); have n1_ := Aside0.mk (blk_below (g := gb586) (o := .cells #[.int .u64 t583, .int .u64 t584] 24 (0, 0)) (by (with_reducible repeat (first | apply bN_22 | apply bD_22 | apply bA_22)); refine blk_put (cs := #[.int .u64 t583, .int .u64 0]) ?_ 1 _ rfl; (with_reducible repeat (first | apply bN_22 | apply bD_22 | apply bA_22)); refine blk_put (cs := #[.int .u64 0, .int .u64 0]) ?_ 0 _ rfl; (with_reducible repeat (first | apply bN_22 | apply bD_22 | apply bA_22)); exact BK586.out) hb); have n2_ := Aside0.mk (below_step (by repeat (first | (with_reducible first | exact HB.out | apply lA_22 | apply lN_22 | apply lD_22 | refine lS_22 ?_ GE582.out | refine lS_22 ?_ GE586.out) | exact HB.out)) hb); clear BK582; clear BK586; clear HB; have BK582 := n0_; have BK586 := n1_; have HB := n2_; clear n0_ n1_ n2_; (try clear hb); (try clear hb2); (try clear hk); (try clear hi)) | ((with_reducible refine gate_callee (f := 25) rfl ?_); refine goesL_ (some 21) rfl rfl Try.func25 (by kernel_rfl) rfl #[.int .u64 6] rfl (by (try simp only [List.map_toArray, List.map_cons, List.map_nil]); first | done | rfl) ?_; (with_reducible refine (tnum_Of.calls 6 t589 t590 _ A4.out).mono ?_); rintro e w14 ⟨rfl, hb⟩; refine ⟨_, rfl, ?_⟩; have n0_ := Aside0.mk (blk_below (g := gb582) (o := .cells #[.int .u64 t579, .int .u64 t580] 24 (0, 0)) (by (with_reducible repeat (first | apply bN_22 | apply bD_22 | apply bA_22)); exact BK582.out) hb); have n1_ := Aside0.mk (blk_below (g := gb586) (o := .cells #[.int .u64 t583, .int .u64 t584] 24 (0, 0)) (by (with_reducible repeat (first | apply bN_22 | apply bD_22 | apply bA_22)); exact BK586.out) hb); have n2_ := Aside0.mk (below_step (by repeat (first | (with_reducible first | exact HB.out | apply lA_22 | apply lN_22 | apply lD_22 | refine lS_22 ?_ GE582.out | refine lS_22 ?_ GE586.out) | exact HB.out)) hb); clear BK582; clear BK586; clear HB; have BK582 := n0_; have BK586 := n1_; have HB := n2_; clear n0_ n1_ n2_; (try clear hb); (try clear hb2); (try clear hk); (try clear hi)) | ((with_reducible refine gate_callee (f := 31) rfl ?_); refine goesL_ (some 22) rfl rfl Try.func31 (by kernel_rfl) rfl #[.agg #[.int .u64 t587, .int .u64 t588], .agg #[.int .u64 t589, .int .u64 t590]] rfl (by (try simp only [List.map_toArray, List.map_cons, List.map_nil]); first | done | rfl) ?_; (with_reducible refine (tnum_Join.calls t587 t588 t589 t590 t591 t592 _ A5.out).mono ?_); rintro e w15 ⟨rfl, hb⟩; refine ⟨_, rfl, ?_⟩; have n0_ := Aside0.mk (blk_below (g := gb582) (o := .cells #[.int .u64 t579, .int .u64 t580] 24 (0, 0)) (by (with_reducible repeat (first | apply bN_22 | apply bD_22 | apply bA_22)); exact BK582.out) hb); have n1_ := Aside0.mk (blk_below (g := gb586) (o := .cells #[.int .u64 t583, .int .u64 t584] 24 (0, 0)) (by (with_reducible repeat (first | apply bN_22 | apply bD_22 | apply bA_22)); exact BK586.out) hb); have n2_ := Aside0.mk (below_step (by repeat (first | (with_reducible first | exact HB.out | apply lA_22 | apply lN_22 | apply lD_22 | refine lS_22 ?_ GE582.out | refine lS_22 ?_ GE586.out) | exact HB.out)) hb); clear BK582; clear BK586; clear HB; have BK582 := n0_; have BK586 := n1_; have HB := n2_; clear n0_ n1_ n2_; (try clear hb); (try clear hb2); (try clear hk); (try clear hi)) | ((with_reducible refine gate_dst (N := 5) rfl ?_); refine box_event ?hg (N := 5) ?hd (cs := #[.int .u64 0, .int .u64 0]) (t := 24) ?hr ?_; (case hd => rfl); (case hg => rfl); (case hr => first | (go_simp; done) | (go_simp; rfl)); intro gb593 hg w16 hbox hb; have n0_ := Aside0.mk (blk_below (g := gb582) (o := .cells #[.int .u64 t579, .int .u64 t580] 24 (0, 0)) (by (with_reducible repeat (first | apply bN_22 | apply bD_22 | apply bA_22)); exact BK582.out) hb); have n1_ := Aside0.mk (blk_below (g := gb586) (o := .cells #[.int .u64 t583, .int .u64 t584] 24 (0, 0)) (by (with_reducible repeat (first | apply bN_22 | apply bD_22 | apply bA_22)); exact BK586.out) hb); have n2_ := Aside0.mk (below_step (by repeat (first | (with_reducible first | exact HB.out | apply lA_22 | apply lN_22 | apply lD_22 | refine lS_22 ?_ GE582.out | refine lS_22 ?_ GE586.out) | exact HB.out)) hb); have n3_ := Aside0.mk (hbox); have n4_ := Aside0.mk ((by rw [hg]; exact (below_size (by repeat (first | (with_reducible first | exact HB.out | apply lA_22 | apply lN_22 | apply lD_22 | refine lS_22 ?_ GE582.out | refine lS_22 ?_ GE586.out) | exact HB.out))) : w.heap.size ≤ gb593)); have n5_ := Aside0.mk ((by rw [hg]; exact (below_size (by repeat (first | (with_reducible first | exact HB.out | apply lA_22 | apply lN_22 | apply lD_22 | refine lS_22 ?_ GE582.out | refine lS_22 ?_ GE586.out) | exact HB.out))) : w.heap.size ≤ gb593)); have n6_ := Aside0.mk ((by rw [hg]; exact Nat.ne_of_lt (blk_lt (g := gb582) (o := .cells #[.int .u64 t579, .int .u64 t580] 24 (0, 0)) (by (with_reducible repeat (first | apply bN_22 | apply bD_22 | apply bA_22)); exact BK582.out)) : gb582 ≠ gb593)); have n7_ := Aside0.mk ((by rw [hg]; exact Nat.ne_of_gt (blk_lt (g := gb582) (o := .cells #[.int .u64 t579, .int .u64 t580] 24 (0, 0)) (by (with_reducible repeat (first | apply bN_22 | apply bD_22 | apply bA_22)); exact BK582.out)) : gb593 ≠ gb582)); have n8_ := Aside0.mk ((by rw [hg]; exact Nat.ne_of_lt (blk_lt (g := gb586) (o := .cells #[.int .u64 t583, .int .u64 t584] 24 (0, 0)) (by (with_reducible repeat (first | apply bN_22 | apply bD_22 | apply bA_22)); exact BK586.out)) : gb586 ≠ gb593)); have n9_ := Aside0.mk ((by rw [hg]; exact Nat.ne_of_gt (blk_lt (g := gb586) (o := .cells #[.int .u64 t583, .int .u64 t584] 24 (0, 0)) (by (with_reducible repeat (first | apply bN_22 | apply bD_22 | apply bA_22)); exact BK586.out)) : gb593 ≠ gb586)); clear BK582; clear BK586; clear HB; have BK582 := n0_; have BK586 := n1_; have HB := n2_; have BK593 := n3_; have GW593 := n4_; have GE593 := n5_; have NB582_593 := n6_; have NB593_582 := n7_; have NB586_593 := n8_; have NB593_586 := n9_; clear n0_ n1_ n2_ n3_ n4_ n5_ n6_ n7_ n8_ n9_; clear hb hbox hg; have hnb17 := NB593_582.out; have hnc17 := NB582_593.out; have hnb18 := NB593_586.out; have hnc18 := NB586_593.out; have hcz19_0 : w16.cell? ⟨gb593, 0, none⟩ = some (.int .u64 0) := (blk_cell BK593.out 0).trans rfl; have hcz19_1 : w16.cell? ⟨gb593, 1, none⟩ = some (.int .u64 0) := (blk_cell BK593.out 1).trans rfl; have hfz19_0 := blk_frozen BK593.out 0; have hfz19_1 := blk_frozen BK593.out 1) | ((with_reducible refine gate_dst (N := 23) rfl ?_); refine Kd.R_lit (Kd.int .i64) _ 3 ?hg (N := 23) ?hd (xs := ([(-9223372036854775808), (-65), (-64), (-1), 0, 63, 64, 9223372036854775807] : List Int)) (inner := [.int .i64 (-9223372036854775808), .int .i64 (-65), .int .i64 (-64), .int .i64 (-1), .int .i64 0, .int .i64 63, .int .i64 64, .int .i64 9223372036854775807]) (ok := fun _ => True) (okp := fun _ => True) ?hr ?hp (fun _ hk => hk) trivial (Below.refl _ _) (Nat.le_refl _) (by simp) ?_; (case hd => rfl); (case hg => rfl); (case hr => first | (go_simp; done) | (go_simp; rfl)); (case hp => exact (Reps.one (show Kd.M (Kd.int .i64) _ _ _ (-9223372036854775808) [.int .i64 (-9223372036854775808)] from rfl) (Reps.one (show Kd.M (Kd.int .i64) _ _ _ (-65) [.int .i64 (-65)] from rfl) (Reps.one (show Kd.M (Kd.int .i64) _ _ _ (-64) [.int .i64 (-64)] from rfl) (Reps.one (show Kd.M (Kd.int .i64) _ _ _ (-1) [.int .i64 (-1)] from rfl) (Reps.one (show Kd.M (Kd.int .i64) _ _ _ 0 [.int .i64 0] from rfl) (Reps.one (show Kd.M (Kd.int .i64) _ _ _ 63 [.int .i64 63] from rfl) (Reps.one (show Kd.M (Kd.int .i64) _ _ _ 64 [.int .i64 64] from rfl) (Reps.one (show Kd.M (Kd.int .i64) _ _ _ 9223372036854775807 [.int .i64 9223372036854775807] from rfl) (Reps.none _ _)))))))))); intro v595 w20 ho21 hb hg_ hnew_; clear hg_ hnew_; (first | rw [← Ny594.out] at ho21 | (simp only [Int.reduceToNat] at ho21; rw [← Ny594.out] at ho21)); have n0_ := Aside0.mk (Kd.R_lower ho21 (below_size (by repeat (first | (with_reducible first | exact HB.out | apply lA_22 | apply lN_22 | apply lD_22 | refine lS_22 ?_ GE582.out | refine lS_22 ?_ GE586.out | refine lS_22 ?_ GE593.out) | exact HB.out)))); have n1_ := Aside0.mk (blk_below (g := gb582) (o := .cells #[.int .u64 t579, .int .u64 t580] 24 (0, 0)) (by (with_reducible repeat (first | apply bN_22 | apply bD_22 | apply bA_22)); refine blk_far ?_ NB582_593.out _; (with_reducible repeat (first | apply bN_22 | apply bD_22 | apply bA_22)); refine blk_far ?_ NB582_593.out _; (with_reducible repeat (first | apply bN_22 | apply bD_22 | apply bA_22)); exact BK582.out) hb); have n2_ := Aside0.mk (blk_below (g := gb586) (o := .cells #[.int .u64 t583, .int .u64 t584] 24 (0, 0)) (by (with_reducible repeat (first | apply bN_22 | apply bD_22 | apply bA_22)); refine blk_far ?_ NB586_593.out _; (with_reducible repeat (first | apply bN_22 | apply bD_22 | apply bA_22)); refine blk_far ?_ NB586_593.out _; (with_reducible repeat (first | apply bN_22 | apply bD_22 | apply bA_22)); exact BK586.out) hb); have n3_ := Aside0.mk (blk_below (g := gb593) (o := .cells #[.int .u64 t591, .int .u64 t592] 24 (0, 0)) (by (with_reducible repeat (first | apply bN_22 | apply bD_22 | apply bA_22)); refine blk_put (cs := #[.int .u64 t591, .int .u64 0]) ?_ 1 _ rfl; (with_reducible repeat (first | apply bN_22 | apply bD_22 | apply bA_22)); refine blk_put (cs := #[.int .u64 0, .int .u64 0]) ?_ 0 _ rfl; (with_reducible repeat (first | apply bN_22 | apply bD_22 | apply bA_22)); exact BK593.out) hb); have n4_ := Aside0.mk (below_step (by repeat (first | (with_reducible first | exact HB.out | apply lA_22 | apply lN_22 | apply lD_22 | refine lS_22 ?_ GE582.out | refine lS_22 ?_ GE586.out | refine lS_22 ?_ GE593.out) | exact HB.out)) hb); clear BK582; clear BK586; clear BK593; clear HB; have HO596 := n0_; have BK582 := n1_; have BK586 := n2_; have BK593 := n3_; have HB := n4_; clear n0_ n1_ n2_ n3_ n4_; clear hb ho21))
  go_loopg [7] k (fun kq v7 w' => ∃ (x7_1 : Int), v7 = .int .i64 x7_1 ∧ Aside0 (lockgatelaw03_TnumKnown.l0 kq t581 t585 y594 x7_1 t579 t580 t591 t592 = some r) ∧ Aside0 (kq ≤ k) ∧ Aside0 (Kd.R (Kd.int .i64) 3 w' w.heap.size (fun _ => True) v595 y594) ∧ Aside0 (w'.heap[gb582]? = some (.cells #[.int .u64 t579, .int .u64 t580] 24 (0, 0))) ∧ Aside0 (w'.heap[gb586]? = some (.cells #[.int .u64 t583, .int .u64 t584] 24 (0, 0))) ∧ Aside0 (w'.heap[gb593]? = some (.cells #[.int .u64 t591, .int .u64 t592] 24 (0, 0))) ∧ Aside0 (Below w.heap.size w w'))
  case atStart => exact ⟨(0), (by first | rfl | (simp; done) | (simp [*]; done)), H', ⟨Nat.le_refl _⟩, ⟨by (with_reducible repeat (first | apply Kd.R_alloc | apply Kd.R_drewN | apply Kd.R_drew)); exact HO596.out⟩, ⟨by (with_reducible repeat (first | apply bN_22 | apply bD_22 | apply bA_22)); exact BK582.out⟩, ⟨by (with_reducible repeat (first | apply bN_22 | apply bD_22 | apply bA_22)); exact BK586.out⟩, ⟨by (with_reducible repeat (first | apply bN_22 | apply bD_22 | apply bA_22)); exact BK593.out⟩, ⟨by repeat (first | (with_reducible first | exact HB.out | apply lA_22 | apply lN_22 | apply lD_22 | refine lS_22 ?_ GE582.out | refine lS_22 ?_ GE586.out | refine lS_22 ?_ GE593.out) | exact HB.out)⟩⟩
  case round =>
    clear H'
    try clear c1
    try clear c2
    try clear p2
    try clear c3
    try clear c11
    try clear c17
    try clear c18
    try clear hcz12_0
    try clear hcz12_1
    try clear hcz19_0
    try clear hcz19_1
    try clear hcz8_0
    try clear hcz8_1
    try clear hfz12_0
    try clear hfz12_1
    try clear hfz19_0
    try clear hfz19_1
    try clear hfz8_0
    try clear hfz8_1
    obtain ⟨x7_1, rfl, HA, HK1, HO_6, BK582, BK586, BK593, HB⟩ := hrel
    cases gk with
    | zero => exact absurd HA.out (by simp [lockgatelaw03_TnumKnown.l0])
    | succ k1 =>
      have H := HA.out
      clear HA
      simp only [lockgatelaw03_TnumKnown.l0] at H
      by_cases c22 : x7_1 < (y594.length : Int)
      · rw [if_pos c22] at H
        have c22b0 : decide (x7_1 < (y594.length : Int)) = true := decide_eq_true c22
        clear c22
        by_cases c23 : 0 ≤ x7_1
        · rw [if_pos c23] at H
          have c23b0 : decide (0 ≤ x7_1) = true := decide_eq_true c23
          clear c23
          replace H := Option.bind_eq_some_iff.mp H
          obtain ⟨t598, A240, H⟩ := H
          replace H : (if t598 = true then ((lockgatelaw03_TnumSound.f k1 9223372036854775808 9 0 5 8 4 (rd y594 x7_1)).bind fun t600 => (if t600 = true then (lockgatelaw03_TnumKnown.l0 k1 t581 t585 y594 (wrap64 (x7_1 + 1)) t579 t580 t591 t592) else (some false))) else (some false)) = some r := H
          have A24 := Aside0.mk A240
          clear A240
          by_cases c25 : t598 = true
          · subst c25
            have H1 : ((lockgatelaw03_TnumSound.f k1 9223372036854775808 9 0 5 8 4 (rd y594 x7_1)).bind fun t600 => (if t600 = true then (lockgatelaw03_TnumKnown.l0 k1 t581 t585 y594 (wrap64 (x7_1 + 1)) t579 t580 t591 t592) else (some false))) = some r := by rw [if_pos rfl] at H; exact H
            clear H
            have H := H1
            clear H1
            replace H := Option.bind_eq_some_iff.mp H
            obtain ⟨t600, A260, H⟩ := H
            replace H : (if t600 = true then (lockgatelaw03_TnumKnown.l0 k1 t581 t585 y594 (wrap64 (x7_1 + 1)) t579 t580 t591 t592) else (some false)) = some r := H
            have A26 := Aside0.mk A260
            clear A260
            by_cases c27 : t600 = true
            · subst c27
              have H1 : (lockgatelaw03_TnumKnown.l0 k1 t581 t585 y594 (wrap64 (x7_1 + 1)) t579 t580 t591 t592) = some r := by rw [if_pos rfl] at H; exact H
              clear H
              have H := H1
              clear H1
              have H' := Aside0.mk H
              clear H
              obtain ⟨Ao28, co28, eo28⟩ := Kd.R_slice HO_6.out
              subst eo28
              have p597 : 0 ≤ (x7_1 : Int) := of_decide_eq_true (by first | (with_reducible assumption) | assumption)
              have q597 : x7_1 < (y594.length : Int) := of_decide_eq_true (by first | (with_reducible assumption) | assumption)
              obtain ⟨ad597, e597, hx597_0⟩ := Kd.at_int (Kd.R_reads' HO_6.out).2.2 x7_1 p597 q597
              cases e597
              replace p597 := eq_true p597
              replace q597 := eq_true q597
              go_wp2_with (first | ((with_reducible refine gate_callee (f := 9) rfl ?_); refine goesL_ (some 34) rfl rfl Try.func9 (by kernel_rfl) rfl #[.int .u64 9223372036854775813, .int .u64 3, .int .i64 (rd y594 x7_1)] rfl (by (try simp only [List.map_toArray, List.map_cons, List.map_nil]); first | done | rfl) ?_; (with_reducible refine (lockgatelaw03_TnumAlone.calls k1 9223372036854775813 3 (rd y594 x7_1) true _ (.mk rfl) A24.out).mono ?_); rintro e w29 ⟨rfl, hb⟩; refine ⟨_, rfl, ?_⟩; have n0_ := Aside0.mk (Kd.R_below (by (with_reducible repeat (first | apply Kd.R_alloc | apply Kd.R_drewN | apply Kd.R_drew)); exact HO_6.out) hb); have n1_ := Aside0.mk (blk_below (g := gb582) (o := .cells #[.int .u64 t579, .int .u64 t580] 24 (0, 0)) (by (with_reducible repeat (first | apply bN_22 | apply bD_22 | apply bA_22)); exact BK582.out) hb); have n2_ := Aside0.mk (blk_below (g := gb586) (o := .cells #[.int .u64 t583, .int .u64 t584] 24 (0, 0)) (by (with_reducible repeat (first | apply bN_22 | apply bD_22 | apply bA_22)); exact BK586.out) hb); have n3_ := Aside0.mk (blk_below (g := gb593) (o := .cells #[.int .u64 t591, .int .u64 t592] 24 (0, 0)) (by (with_reducible repeat (first | apply bN_22 | apply bD_22 | apply bA_22)); exact BK593.out) hb); have n4_ := Aside0.mk (below_step (by repeat (first | (with_reducible first | exact HB.out | apply lA_22 | apply lN_22 | apply lD_22 | refine lS_22 ?_ GE582.out | refine lS_22 ?_ GE586.out | refine lS_22 ?_ GE593.out) | exact HB.out)) hb); clear HO_6; clear BK582; clear BK586; clear BK593; clear HB; have HO_6 := n0_; have BK582 := n1_; have BK586 := n2_; have BK593 := n3_; have HB := n4_; clear n0_ n1_ n2_ n3_ n4_; (try clear hb); (try clear hb2); (try clear hk); (try clear hi); have p599 : 0 ≤ (x7_1 : Int) := of_decide_eq_true (by first | (with_reducible assumption) | assumption); have q599 : x7_1 < (y594.length : Int) := of_decide_eq_true (by first | (with_reducible assumption) | assumption); obtain ⟨ad599, e599, hx599_0⟩ := Kd.at_int (Kd.R_reads' HO_6.out).2.2 x7_1 p599 q599; obtain rfl : ad597 = ad599 := (by injection e599); replace p599 := eq_true p599; replace q599 := eq_true q599) | (go_at_call 10; (with_reducible refine (lockgatelaw03_TnumSound.calls k1 9223372036854775808 9 0 5 8 4 (rd y594 x7_1) true _ (.mk rfl) A26.out).mono ?_); rintro e w30 ⟨rfl, hb⟩; have n0_ := Aside0.mk (Kd.R_below (by (with_reducible repeat (first | apply Kd.R_alloc | apply Kd.R_drewN | apply Kd.R_drew)); exact HO_6.out) hb); have n1_ := Aside0.mk (blk_below (g := gb582) (o := .cells #[.int .u64 t579, .int .u64 t580] 24 (0, 0)) (by (with_reducible repeat (first | apply bN_22 | apply bD_22 | apply bA_22)); exact BK582.out) hb); have n2_ := Aside0.mk (blk_below (g := gb586) (o := .cells #[.int .u64 t583, .int .u64 t584] 24 (0, 0)) (by (with_reducible repeat (first | apply bN_22 | apply bD_22 | apply bA_22)); exact BK586.out) hb); have n3_ := Aside0.mk (blk_below (g := gb593) (o := .cells #[.int .u64 t591, .int .u64 t592] 24 (0, 0)) (by (with_reducible repeat (first | apply bN_22 | apply bD_22 | apply bA_22)); exact BK593.out) hb); have n4_ := Aside0.mk (below_step (by repeat (first | (with_reducible first | exact HB.out | apply lA_22 | apply lN_22 | apply lD_22 | refine lS_22 ?_ GE582.out | refine lS_22 ?_ GE586.out | refine lS_22 ?_ GE593.out) | exact HB.out)) hb); clear HO_6; clear BK582; clear BK586; clear BK593; clear HB; have HO_6 := n0_; have BK582 := n1_; have BK586 := n2_; have BK593 := n3_; have HB := n4_; clear n0_ n1_ n2_ n3_ n4_; (try clear hb); (try clear hb2); (try clear hk); (try clear hi)))
              go_roundg k1
              case measure => have := HK1.out; omega
              case rel => exact ⟨(wrap64 (x7_1 + 1)), (by first | rfl | (simp; done) | (simp [*]; done)), H', ⟨by have := HK1.out; omega⟩, ⟨by (with_reducible repeat (first | apply Kd.R_alloc | apply Kd.R_drewN | apply Kd.R_drew)); exact HO_6.out⟩, ⟨by (with_reducible repeat (first | apply bN_22 | apply bD_22 | apply bA_22)); exact BK582.out⟩, ⟨by (with_reducible repeat (first | apply bN_22 | apply bD_22 | apply bA_22)); exact BK586.out⟩, ⟨by (with_reducible repeat (first | apply bN_22 | apply bD_22 | apply bA_22)); exact BK593.out⟩, ⟨by repeat (first | (with_reducible first | exact HB.out | apply lA_22 | apply lN_22 | apply lD_22 | refine lS_22 ?_ GE582.out | refine lS_22 ?_ GE586.out | refine lS_22 ?_ GE593.out) | exact HB.out)⟩⟩
            · replace c27 := Bool.eq_false_iff.mpr c27
              subst c27
              have H1 : (some false) = some r := by rw [if_neg (show ¬ (false = true) by decide)] at H; exact H
              clear H
              have H := H1
              clear H1
              exact absurd ((Option.some.inj H).trans HRT.out) (by decide)
          · replace c25 := Bool.eq_false_iff.mpr c25
            subst c25
            have H1 : (some false) = some r := by rw [if_neg (show ¬ (false = true) by decide)] at H; exact H
            clear H
            have H := H1
            clear H1
            exact absurd ((Option.some.inj H).trans HRT.out) (by decide)
        · rw [if_neg c23] at H
          exact absurd H (by simp)
      · rw [if_neg c22] at H
        have c22b0 : decide (x7_1 < (y594.length : Int)) = false := decide_eq_false c22
        clear c22
        by_cases c31 : t581 = true
        · subst c31
          have H1 : (if (t579 == 5 && (t580 == 2)) = true then (if t585 = true then (some false) else (if (t591 == 4 && (t592 == 2)) = true then ((tnum_Of.f 4).bind fun bt601 => ((tnum_Within.f bt601.1 bt601.2 t591 t592).bind fun t603 => (if t603 = true then ((tnum_Of.f 1).bind fun bt604 => ((tnum_Add.f 0 1 bt604.1 bt604.2).bind fun bt606 => (if (bt606.1 == 0 && (bt606.2 == 3)) = true then ((tnum_Of.f 3).bind fun bt608 => ((tnum_Mul.f k1 0 2 bt608.1 bt608.2).bind fun bt610 => (if (bt610.1 == 0 && (bt610.2 == 6)) = true then ((tnum_Any.f).bind fun bt612 => ((tnum_Cut.f bt612.1 bt612.2 0).bind fun bt614 => ((tnum_Of.f 0).bind fun bt616 => (if (bt614.1 == bt616.1 && (bt614.2 == bt616.2)) = true then ((tnum_Of.f 1).bind fun bt618 => ((tnum_Arsh.f bt618.1 bt618.2 0 16).bind fun bt620 => ((tnum_Any.f).bind fun bt622 => (if (bt620.1 == bt622.1 && (bt620.2 == bt622.2)) = true then ((lockgatelaw03_known.f k1).bind fun t624 => (some t624)) else (some false))))) else (some false))))) else (some false)))) else (some false)))) else (some false)))) else (some false))) else (some false)) = some r := by rw [if_pos rfl] at H; exact H
          clear H
          have H := H1
          clear H1
          by_cases c32 : (t579 == 5 && (t580 == 2)) = true
          · rw [if_pos c32] at H
            have c32b0 : (t579 == 5 && (t580 == 2)) = true := c32
            (try (have c32b1 : decide (t579 = 5 && (t580 == 2)) = true := by simpa using c32))
            (try (have c32b2 : (t579 == 5 && (t580 == 2)) = true := by simpa using c32))
            clear c32
            by_cases c33 : t585 = true
            · subst c33
              have H1 : (some false) = some r := by rw [if_pos rfl] at H; exact H
              clear H
              have H := H1
              clear H1
              exact absurd ((Option.some.inj H).trans HRT.out) (by decide)
            · replace c33 := Bool.eq_false_iff.mpr c33
              subst c33
              have H1 : (if (t591 == 4 && (t592 == 2)) = true then ((tnum_Of.f 4).bind fun bt601 => ((tnum_Within.f bt601.1 bt601.2 t591 t592).bind fun t603 => (if t603 = true then ((tnum_Of.f 1).bind fun bt604 => ((tnum_Add.f 0 1 bt604.1 bt604.2).bind fun bt606 => (if (bt606.1 == 0 && (bt606.2 == 3)) = true then ((tnum_Of.f 3).bind fun bt608 => ((tnum_Mul.f k1 0 2 bt608.1 bt608.2).bind fun bt610 => (if (bt610.1 == 0 && (bt610.2 == 6)) = true then ((tnum_Any.f).bind fun bt612 => ((tnum_Cut.f bt612.1 bt612.2 0).bind fun bt614 => ((tnum_Of.f 0).bind fun bt616 => (if (bt614.1 == bt616.1 && (bt614.2 == bt616.2)) = true then ((tnum_Of.f 1).bind fun bt618 => ((tnum_Arsh.f bt618.1 bt618.2 0 16).bind fun bt620 => ((tnum_Any.f).bind fun bt622 => (if (bt620.1 == bt622.1 && (bt620.2 == bt622.2)) = true then ((lockgatelaw03_known.f k1).bind fun t624 => (some t624)) else (some false))))) else (some false))))) else (some false)))) else (some false)))) else (some false)))) else (some false)) = some r := by rw [if_neg (show ¬ (false = true) by decide)] at H; exact H
              clear H
              have H := H1
              clear H1
              by_cases c34 : (t591 == 4 && (t592 == 2)) = true
              · rw [if_pos c34] at H
                have c34b0 : (t591 == 4 && (t592 == 2)) = true := c34
                (try (have c34b1 : decide (t591 = 4 && (t592 == 2)) = true := by simpa using c34))
                (try (have c34b2 : (t591 == 4 && (t592 == 2)) = true := by simpa using c34))
                clear c34
                replace H := Option.bind_eq_some_iff.mp H
                obtain ⟨⟨t601, t602⟩, A350, H⟩ := H
                replace H : ((tnum_Within.f t601 t602 t591 t592).bind fun t603 => (if t603 = true then ((tnum_Of.f 1).bind fun bt604 => ((tnum_Add.f 0 1 bt604.1 bt604.2).bind fun bt606 => (if (bt606.1 == 0 && (bt606.2 == 3)) = true then ((tnum_Of.f 3).bind fun bt608 => ((tnum_Mul.f k1 0 2 bt608.1 bt608.2).bind fun bt610 => (if (bt610.1 == 0 && (bt610.2 == 6)) = true then ((tnum_Any.f).bind fun bt612 => ((tnum_Cut.f bt612.1 bt612.2 0).bind fun bt614 => ((tnum_Of.f 0).bind fun bt616 => (if (bt614.1 == bt616.1 && (bt614.2 == bt616.2)) = true then ((tnum_Of.f 1).bind fun bt618 => ((tnum_Arsh.f bt618.1 bt618.2 0 16).bind fun bt620 => ((tnum_Any.f).bind fun bt622 => (if (bt620.1 == bt622.1 && (bt620.2 == bt622.2)) = true then ((lockgatelaw03_known.f k1).bind fun t624 => (some t624)) else (some false))))) else (some false))))) else (some false)))) else (some false)))) else (some false))) = some r := H
                have A35 := Aside0.mk A350
                clear A350
                replace H := Option.bind_eq_some_iff.mp H
                obtain ⟨t603, A360, H⟩ := H
                replace H : (if t603 = true then ((tnum_Of.f 1).bind fun bt604 => ((tnum_Add.f 0 1 bt604.1 bt604.2).bind fun bt606 => (if (bt606.1 == 0 && (bt606.2 == 3)) = true then ((tnum_Of.f 3).bind fun bt608 => ((tnum_Mul.f k1 0 2 bt608.1 bt608.2).bind fun bt610 => (if (bt610.1 == 0 && (bt610.2 == 6)) = true then ((tnum_Any.f).bind fun bt612 => ((tnum_Cut.f bt612.1 bt612.2 0).bind fun bt614 => ((tnum_Of.f 0).bind fun bt616 => (if (bt614.1 == bt616.1 && (bt614.2 == bt616.2)) = true then ((tnum_Of.f 1).bind fun bt618 => ((tnum_Arsh.f bt618.1 bt618.2 0 16).bind fun bt620 => ((tnum_Any.f).bind fun bt622 => (if (bt620.1 == bt622.1 && (bt620.2 == bt622.2)) = true then ((lockgatelaw03_known.f k1).bind fun t624 => (some t624)) else (some false))))) else (some false))))) else (some false)))) else (some false)))) else (some false)) = some r := H
                have A36 := Aside0.mk A360
                clear A360
                by_cases c37 : t603 = true
                · subst c37
                  have H1 : ((tnum_Of.f 1).bind fun bt604 => ((tnum_Add.f 0 1 bt604.1 bt604.2).bind fun bt606 => (if (bt606.1 == 0 && (bt606.2 == 3)) = true then ((tnum_Of.f 3).bind fun bt608 => ((tnum_Mul.f k1 0 2 bt608.1 bt608.2).bind fun bt610 => (if (bt610.1 == 0 && (bt610.2 == 6)) = true then ((tnum_Any.f).bind fun bt612 => ((tnum_Cut.f bt612.1 bt612.2 0).bind fun bt614 => ((tnum_Of.f 0).bind fun bt616 => (if (bt614.1 == bt616.1 && (bt614.2 == bt616.2)) = true then ((tnum_Of.f 1).bind fun bt618 => ((tnum_Arsh.f bt618.1 bt618.2 0 16).bind fun bt620 => ((tnum_Any.f).bind fun bt622 => (if (bt620.1 == bt622.1 && (bt620.2 == bt622.2)) = true then ((lockgatelaw03_known.f k1).bind fun t624 => (some t624)) else (some false))))) else (some false))))) else (some false)))) else (some false)))) = some r := by rw [if_pos rfl] at H; exact H
                  clear H
                  have H := H1
                  clear H1
                  replace H := Option.bind_eq_some_iff.mp H
                  obtain ⟨⟨t604, t605⟩, A380, H⟩ := H
                  replace H : ((tnum_Add.f 0 1 t604 t605).bind fun bt606 => (if (bt606.1 == 0 && (bt606.2 == 3)) = true then ((tnum_Of.f 3).bind fun bt608 => ((tnum_Mul.f k1 0 2 bt608.1 bt608.2).bind fun bt610 => (if (bt610.1 == 0 && (bt610.2 == 6)) = true then ((tnum_Any.f).bind fun bt612 => ((tnum_Cut.f bt612.1 bt612.2 0).bind fun bt614 => ((tnum_Of.f 0).bind fun bt616 => (if (bt614.1 == bt616.1 && (bt614.2 == bt616.2)) = true then ((tnum_Of.f 1).bind fun bt618 => ((tnum_Arsh.f bt618.1 bt618.2 0 16).bind fun bt620 => ((tnum_Any.f).bind fun bt622 => (if (bt620.1 == bt622.1 && (bt620.2 == bt622.2)) = true then ((lockgatelaw03_known.f k1).bind fun t624 => (some t624)) else (some false))))) else (some false))))) else (some false)))) else (some false))) = some r := H
                  have A38 := Aside0.mk A380
                  clear A380
                  replace H := Option.bind_eq_some_iff.mp H
                  obtain ⟨⟨t606, t607⟩, A390, H⟩ := H
                  replace H : (if (t606 == 0 && (t607 == 3)) = true then ((tnum_Of.f 3).bind fun bt608 => ((tnum_Mul.f k1 0 2 bt608.1 bt608.2).bind fun bt610 => (if (bt610.1 == 0 && (bt610.2 == 6)) = true then ((tnum_Any.f).bind fun bt612 => ((tnum_Cut.f bt612.1 bt612.2 0).bind fun bt614 => ((tnum_Of.f 0).bind fun bt616 => (if (bt614.1 == bt616.1 && (bt614.2 == bt616.2)) = true then ((tnum_Of.f 1).bind fun bt618 => ((tnum_Arsh.f bt618.1 bt618.2 0 16).bind fun bt620 => ((tnum_Any.f).bind fun bt622 => (if (bt620.1 == bt622.1 && (bt620.2 == bt622.2)) = true then ((lockgatelaw03_known.f k1).bind fun t624 => (some t624)) else (some false))))) else (some false))))) else (some false)))) else (some false)) = some r := H
                  have A39 := Aside0.mk A390
                  clear A390
                  by_cases c40 : (t606 == 0 && (t607 == 3)) = true
                  · rw [if_pos c40] at H
                    have c40b0 : (t606 == 0 && (t607 == 3)) = true := c40
                    (try (have c40b1 : decide (t606 = 0 && (t607 == 3)) = true := by simpa using c40))
                    (try (have c40b2 : (t606 == 0 && (t607 == 3)) = true := by simpa using c40))
                    clear c40
                    replace H := Option.bind_eq_some_iff.mp H
                    obtain ⟨⟨t608, t609⟩, A410, H⟩ := H
                    replace H : ((tnum_Mul.f k1 0 2 t608 t609).bind fun bt610 => (if (bt610.1 == 0 && (bt610.2 == 6)) = true then ((tnum_Any.f).bind fun bt612 => ((tnum_Cut.f bt612.1 bt612.2 0).bind fun bt614 => ((tnum_Of.f 0).bind fun bt616 => (if (bt614.1 == bt616.1 && (bt614.2 == bt616.2)) = true then ((tnum_Of.f 1).bind fun bt618 => ((tnum_Arsh.f bt618.1 bt618.2 0 16).bind fun bt620 => ((tnum_Any.f).bind fun bt622 => (if (bt620.1 == bt622.1 && (bt620.2 == bt622.2)) = true then ((lockgatelaw03_known.f k1).bind fun t624 => (some t624)) else (some false))))) else (some false))))) else (some false))) = some r := H
                    have A41 := Aside0.mk A410
                    clear A410
                    replace H := Option.bind_eq_some_iff.mp H
                    obtain ⟨⟨t610, t611⟩, A420, H⟩ := H
                    replace H : (if (t610 == 0 && (t611 == 6)) = true then ((tnum_Any.f).bind fun bt612 => ((tnum_Cut.f bt612.1 bt612.2 0).bind fun bt614 => ((tnum_Of.f 0).bind fun bt616 => (if (bt614.1 == bt616.1 && (bt614.2 == bt616.2)) = true then ((tnum_Of.f 1).bind fun bt618 => ((tnum_Arsh.f bt618.1 bt618.2 0 16).bind fun bt620 => ((tnum_Any.f).bind fun bt622 => (if (bt620.1 == bt622.1 && (bt620.2 == bt622.2)) = true then ((lockgatelaw03_known.f k1).bind fun t624 => (some t624)) else (some false))))) else (some false))))) else (some false)) = some r := H
                    have A42 := Aside0.mk A420
                    clear A420
                    by_cases c43 : (t610 == 0 && (t611 == 6)) = true
                    · rw [if_pos c43] at H
                      have c43b0 : (t610 == 0 && (t611 == 6)) = true := c43
                      (try (have c43b1 : decide (t610 = 0 && (t611 == 6)) = true := by simpa using c43))
                      (try (have c43b2 : (t610 == 0 && (t611 == 6)) = true := by simpa using c43))
                      clear c43
                      replace H := Option.bind_eq_some_iff.mp H
                      obtain ⟨⟨t612, t613⟩, A440, H⟩ := H
                      replace H : ((tnum_Cut.f t612 t613 0).bind fun bt614 => ((tnum_Of.f 0).bind fun bt616 => (if (bt614.1 == bt616.1 && (bt614.2 == bt616.2)) = true then ((tnum_Of.f 1).bind fun bt618 => ((tnum_Arsh.f bt618.1 bt618.2 0 16).bind fun bt620 => ((tnum_Any.f).bind fun bt622 => (if (bt620.1 == bt622.1 && (bt620.2 == bt622.2)) = true then ((lockgatelaw03_known.f k1).bind fun t624 => (some t624)) else (some false))))) else (some false)))) = some r := H
                      have A44 := Aside0.mk A440
                      clear A440
                      replace H := Option.bind_eq_some_iff.mp H
                      obtain ⟨⟨t614, t615⟩, A450, H⟩ := H
                      replace H : ((tnum_Of.f 0).bind fun bt616 => (if (t614 == bt616.1 && (t615 == bt616.2)) = true then ((tnum_Of.f 1).bind fun bt618 => ((tnum_Arsh.f bt618.1 bt618.2 0 16).bind fun bt620 => ((tnum_Any.f).bind fun bt622 => (if (bt620.1 == bt622.1 && (bt620.2 == bt622.2)) = true then ((lockgatelaw03_known.f k1).bind fun t624 => (some t624)) else (some false))))) else (some false))) = some r := H
                      have A45 := Aside0.mk A450
                      clear A450
                      replace H := Option.bind_eq_some_iff.mp H
                      obtain ⟨⟨t616, t617⟩, A460, H⟩ := H
                      replace H : (if (t614 == t616 && (t615 == t617)) = true then ((tnum_Of.f 1).bind fun bt618 => ((tnum_Arsh.f bt618.1 bt618.2 0 16).bind fun bt620 => ((tnum_Any.f).bind fun bt622 => (if (bt620.1 == bt622.1 && (bt620.2 == bt622.2)) = true then ((lockgatelaw03_known.f k1).bind fun t624 => (some t624)) else (some false))))) else (some false)) = some r := H
                      have A46 := Aside0.mk A460
                      clear A460
                      by_cases c47 : (t614 == t616 && (t615 == t617)) = true
                      · rw [if_pos c47] at H
                        have c47b0 : (t614 == t616 && (t615 == t617)) = true := c47
                        (try (have c47b1 : decide (t614 = t616 && (t615 == t617)) = true := by simpa using c47))
                        (try (have c47b2 : (t614 == t616 && (t615 == t617)) = true := by simpa using c47))
                        clear c47
                        replace H := Option.bind_eq_some_iff.mp H
                        obtain ⟨⟨t618, t619⟩, A480, H⟩ := H
                        replace H : ((tnum_Arsh.f t618 t619 0 16).bind fun bt620 => ((tnum_Any.f).bind fun bt622 => (if (bt620.1 == bt622.1 && (bt620.2 == bt622.2)) = true then ((lockgatelaw03_known.f k1).bind fun t624 => (some t624)) else (some false)))) = some r := H
                        have A48 := Aside0.mk A480
                        clear A480
                        replace H := Option.bind_eq_some_iff.mp H
                        obtain ⟨⟨t620, t621⟩, A490, H⟩ := H
                        replace H : ((tnum_Any.f).bind fun bt622 => (if (t620 == bt622.1 && (t621 == bt622.2)) = true then ((lockgatelaw03_known.f k1).bind fun t624 => (some t624)) else (some false))) = some r := H
                        have A49 := Aside0.mk A490
                        clear A490
                        replace H := Option.bind_eq_some_iff.mp H
                        obtain ⟨⟨t622, t623⟩, A500, H⟩ := H
                        replace H : (if (t620 == t622 && (t621 == t623)) = true then ((lockgatelaw03_known.f k1).bind fun t624 => (some t624)) else (some false)) = some r := H
                        have A50 := Aside0.mk A500
                        clear A500
                        by_cases c51 : (t620 == t622 && (t621 == t623)) = true
                        · rw [if_pos c51] at H
                          have c51b0 : (t620 == t622 && (t621 == t623)) = true := c51
                          (try (have c51b1 : decide (t620 = t622 && (t621 == t623)) = true := by simpa using c51))
                          (try (have c51b2 : (t620 == t622 && (t621 == t623)) = true := by simpa using c51))
                          clear c51
                          replace H := Option.bind_eq_some_iff.mp H
                          obtain ⟨t624, A520, H⟩ := H
                          replace H : (some t624) = some r := H
                          have A52 := Aside0.mk A520
                          clear A520
                          obtain rfl := Option.some.inj H
                          obtain ⟨Ao53, co53, eo53⟩ := Kd.R_slice HO_6.out
                          subst eo53
                          try go_wp2
                          have n0_ := Aside0.mk (Kd.R_drew HO_6.out)
                          have n1_ := Aside0.mk (blk_drew BK582.out)
                          have n2_ := Aside0.mk (blk_drew BK586.out)
                          have n3_ := Aside0.mk (blk_drew BK593.out)
                          have n4_ := Aside0.mk (below_drew1 HB.out)
                          clear HO_6
                          clear BK582
                          clear BK586
                          clear BK593
                          clear HB
                          have HO_6 := n0_
                          have BK582 := n1_
                          have BK586 := n2_
                          have BK593 := n3_
                          have HB := n4_
                          clear n0_ n1_ n2_ n3_ n4_
                          refine start_ (n := 50) (S := fun w' => w'.cell? ⟨gb582, 0, none⟩ = some (.int .u64 t579) ∧ w'.cell? ⟨gb582, 1, none⟩ = some (.int .u64 t580) ∧ w'.cell? ⟨gb593, 0, none⟩ = some (.int .u64 t591) ∧ w'.cell? ⟨gb593, 1, none⟩ = some (.int .u64 t592)) (ds := []) #[false, false, false, false, false, false, false, false, false, false, false, false, false, false, false, false, false, false, false, false, false, false, false, false, false, false, false, false, false, false, false, false, false, false, false, false, false, false, false, false, false, false, false, false, false, false, false, false, false, false] (by kernel_rfl) rfl rfl ⟨(blk_cell BK582.out 0).trans rfl, (blk_cell BK582.out 1).trans rfl, (blk_cell BK593.out 0).trans rfl, (blk_cell BK593.out 1).trans rfl⟩ (fun hHeld => ?_); refine with_tabW lockgatelaw03_TnumKnown.tab10 lockgatelaw03_TnumKnown.bits10 (fun HT_ HW_ => ?_)
                          generalize wr.drew = w54 at HO_6 BK582 BK586 BK593 HB hHeld ⊢
                          refine pure_ (i := 0) (N := some 46) (v := ?_) (a' := ?_) #[true, false, false, false, false, false, false, false, false, false, false, false, false, false, false, false, false, false, false, false, false, false, false, false, false, false, false, false, false, false, false, false, false, false, false, false, false, false, false, false, false, false, false, false, false, false, false, false, false, false] rfl rfl (any_of HT_.out (by kernel_rfl)) (fun _ _ _ h => h) (Or.inl ⟨by rfl, ?_⟩) ?_ ?_
                          rotate_left
                          · intro w'
                            go_simp
                            with_reducible rfl
                          rotate_left
                          · simp only [Act.put, List.setIfInBounds_toArray, List.set_cons_zero, List.set_cons_succ, i64_w, i32_w]
                            rfl
                          refine pure_ (i := 1) (N := some 47) (v := ?_) (a' := ?_) #[true, true, false, false, false, false, false, false, false, false, false, false, false, false, false, false, false, false, false, false, false, false, false, false, false, false, false, false, false, false, false, false, false, false, false, false, false, false, false, false, false, false, false, false, false, false, false, false, false, false] rfl rfl (any_of HT_.out (by kernel_rfl)) (fun _ _ _ h => h) (Or.inl ⟨by rfl, ?_⟩) ?_ ?_
                          rotate_left
                          · intro w'
                            go_simp
                            with_reducible rfl
                          rotate_left
                          · simp only [Act.put, List.setIfInBounds_toArray, List.set_cons_zero, List.set_cons_succ, i64_w, i32_w]
                            rfl
                          refine pure_ (i := 3) (N := some 49) (v := ?_) (a' := ?_) #[true, true, false, true, false, false, false, false, false, false, false, false, false, false, false, false, false, false, false, false, false, false, false, false, false, false, false, false, false, false, false, false, false, false, false, false, false, false, false, false, false, false, false, false, false, false, false, false, false, false] rfl rfl (any_of HT_.out (by kernel_rfl)) (fun _ _ _ h => h) (Or.inl ⟨by rfl, ?_⟩) ?_ ?_
                          rotate_left
                          · intro w'
                            go_simp
                            with_reducible rfl
                          rotate_left
                          · simp only [Act.put, List.setIfInBounds_toArray, List.set_cons_zero, List.set_cons_succ, i64_w, i32_w]
                            rfl
                          refine take_ (i := 2) (N := some 48) (v := ?_) (a' := ?_) #[true, true, true, true, false, false, false, false, false, false, false, false, false, false, false, false, false, false, false, false, false, false, false, false, false, false, false, false, false, false, false, false, false, false, false, false, false, false, false, false, false, false, false, false, false, false, false, false, false, false] rfl rfl (take_ofW HT_.out HW_.out (by kernel_rfl)) (fun _ _ _ h => h) (Or.inl ⟨by rfl, ?_⟩) hHeld ?_ ?_
                          rotate_left
                          · rintro w' ⟨s0, s1, s2, s3⟩
                            go_simp
                            with_reducible rfl
                          rotate_left
                          · simp only [Act.put, List.setIfInBounds_toArray, List.set_cons_zero, List.set_cons_succ, i64_w, i32_w]
                            rfl
                          refine pure_ (i := 4) (N := some 50) (v := ?_) (a' := ?_) #[true, true, true, true, true, false, false, false, false, false, false, false, false, false, false, false, false, false, false, false, false, false, false, false, false, false, false, false, false, false, false, false, false, false, false, false, false, false, false, false, false, false, false, false, false, false, false, false, false, false] rfl rfl (any_of HT_.out (by kernel_rfl)) (fun _ _ _ h => h) (Or.inl ⟨by rfl, ?_⟩) ?_ ?_
                          rotate_left
                          · intro w'
                            go_simp
                            with_reducible rfl
                          rotate_left
                          · simp only [Act.put, List.setIfInBounds_toArray, List.set_cons_zero, List.set_cons_succ, i64_w, i32_w]
                            rfl
                          refine pure_ (i := 5) (N := some 51) (v := ?_) (a' := ?_) #[true, true, true, true, true, true, false, false, false, false, false, false, false, false, false, false, false, false, false, false, false, false, false, false, false, false, false, false, false, false, false, false, false, false, false, false, false, false, false, false, false, false, false, false, false, false, false, false, false, false] rfl rfl (any_of HT_.out (by kernel_rfl)) (fun _ _ _ h => h) (Or.inl ⟨by rfl, ?_⟩) ?_ ?_
                          rotate_left
                          · intro w'
                            go_simp
                            with_reducible rfl
                          rotate_left
                          · simp only [Act.put, List.setIfInBounds_toArray, List.set_cons_zero, List.set_cons_succ, i64_w, i32_w]
                            rfl
                          refine pure_ (i := 6) (N := some 52) (v := ?_) (a' := ?_) #[true, true, true, true, true, true, true, false, false, false, false, false, false, false, false, false, false, false, false, false, false, false, false, false, false, false, false, false, false, false, false, false, false, false, false, false, false, false, false, false, false, false, false, false, false, false, false, false, false, false] rfl rfl (any_of HT_.out (by kernel_rfl)) (fun _ _ _ h => h) (Or.inl ⟨by rfl, ?_⟩) ?_ ?_
                          rotate_left
                          · intro w'
                            go_simp
                            with_reducible rfl
                          rotate_left
                          · simp only [Act.put, List.setIfInBounds_toArray, List.set_cons_zero, List.set_cons_succ, i64_w, i32_w]
                            rfl
                          refine pure_ (i := 7) (N := some 53) (v := ?_) (a' := ?_) #[true, true, true, true, true, true, true, true, false, false, false, false, false, false, false, false, false, false, false, false, false, false, false, false, false, false, false, false, false, false, false, false, false, false, false, false, false, false, false, false, false, false, false, false, false, false, false, false, false, false] rfl rfl (any_of HT_.out (by kernel_rfl)) (fun _ _ _ h => h) (Or.inl ⟨by rfl, ?_⟩) ?_ ?_
                          rotate_left
                          · intro w'
                            go_simp
                            with_reducible rfl
                          rotate_left
                          · simp only [Act.put, List.setIfInBounds_toArray, List.set_cons_zero, List.set_cons_succ, i64_w, i32_w]
                            rfl
                          refine pure_ (i := 8) (N := some 54) (v := ?_) (a' := ?_) #[true, true, true, true, true, true, true, true, true, false, false, false, false, false, false, false, false, false, false, false, false, false, false, false, false, false, false, false, false, false, false, false, false, false, false, false, false, false, false, false, false, false, false, false, false, false, false, false, false, false] rfl rfl (any_of HT_.out (by kernel_rfl)) (fun _ _ _ h => h) (Or.inl ⟨by rfl, ?_⟩) ?_ ?_
                          rotate_left
                          · intro w'
                            go_simp
                            with_reducible rfl
                          rotate_left
                          · simp only [Act.put, List.setIfInBounds_toArray, List.set_cons_zero, List.set_cons_succ, i64_w, i32_w]
                            rfl
                          refine pure_ (i := 9) (N := some 55) (v := ?_) (a' := ?_) #[true, true, true, true, true, true, true, true, true, true, false, false, false, false, false, false, false, false, false, false, false, false, false, false, false, false, false, false, false, false, false, false, false, false, false, false, false, false, false, false, false, false, false, false, false, false, false, false, false, false] rfl rfl (any_of HT_.out (by kernel_rfl)) (fun _ _ _ h => h) (Or.inl ⟨by rfl, ?_⟩) ?_ ?_
                          rotate_left
                          · intro w'
                            go_simp
                            with_reducible rfl
                          rotate_left
                          · simp only [Act.put, List.setIfInBounds_toArray, List.set_cons_zero, List.set_cons_succ, i64_w, i32_w]
                            rfl
                          refine pure_ (i := 10) (N := some 56) (v := ?_) (a' := ?_) #[true, true, true, true, true, true, true, true, true, true, true, false, false, false, false, false, false, false, false, false, false, false, false, false, false, false, false, false, false, false, false, false, false, false, false, false, false, false, false, false, false, false, false, false, false, false, false, false, false, false] rfl rfl (any_of HT_.out (by kernel_rfl)) (fun _ _ _ h => h) (Or.inl ⟨by rfl, ?_⟩) ?_ ?_
                          rotate_left
                          · intro w'
                            go_simp
                            with_reducible rfl
                          rotate_left
                          · simp only [Act.put, List.setIfInBounds_toArray, List.set_cons_zero, List.set_cons_succ, i64_w, i32_w]
                            rfl
                          refine pure_ (i := 12) (N := some 58) (v := ?_) (a' := ?_) #[true, true, true, true, true, true, true, true, true, true, true, false, true, false, false, false, false, false, false, false, false, false, false, false, false, false, false, false, false, false, false, false, false, false, false, false, false, false, false, false, false, false, false, false, false, false, false, false, false, false] rfl rfl (any_of HT_.out (by kernel_rfl)) (fun _ _ _ h => h) (Or.inl ⟨by rfl, ?_⟩) ?_ ?_
                          rotate_left
                          · intro w'
                            go_simp
                            with_reducible rfl
                          rotate_left
                          · simp only [Act.put, List.setIfInBounds_toArray, List.set_cons_zero, List.set_cons_succ, i64_w, i32_w]
                            rfl
                          refine take_ (i := 11) (N := some 57) (v := ?_) (a' := ?_) #[true, true, true, true, true, true, true, true, true, true, true, true, true, false, false, false, false, false, false, false, false, false, false, false, false, false, false, false, false, false, false, false, false, false, false, false, false, false, false, false, false, false, false, false, false, false, false, false, false, false] rfl rfl (take_ofW HT_.out HW_.out (by kernel_rfl)) (fun _ _ _ h => h) (Or.inl ⟨by rfl, ?_⟩) hHeld ?_ ?_
                          rotate_left
                          · rintro w' ⟨s0, s1, s2, s3⟩
                            go_simp
                            with_reducible rfl
                          rotate_left
                          · simp only [Act.put, List.setIfInBounds_toArray, List.set_cons_zero, List.set_cons_succ, i64_w, i32_w]
                            rfl
                          refine pure_ (i := 13) (N := some 59) (v := ?_) (a' := ?_) #[true, true, true, true, true, true, true, true, true, true, true, true, true, true, false, false, false, false, false, false, false, false, false, false, false, false, false, false, false, false, false, false, false, false, false, false, false, false, false, false, false, false, false, false, false, false, false, false, false, false] rfl rfl (any_of HT_.out (by kernel_rfl)) (fun _ _ _ h => h) (Or.inl ⟨by rfl, ?_⟩) ?_ ?_
                          rotate_left
                          · intro w'
                            go_simp
                            with_reducible rfl
                          rotate_left
                          · simp only [Act.put, List.setIfInBounds_toArray, List.set_cons_zero, List.set_cons_succ, i64_w, i32_w]
                            rfl
                          refine pure_ (i := 14) (N := some 60) (v := ?_) (a' := ?_) #[true, true, true, true, true, true, true, true, true, true, true, true, true, true, true, false, false, false, false, false, false, false, false, false, false, false, false, false, false, false, false, false, false, false, false, false, false, false, false, false, false, false, false, false, false, false, false, false, false, false] rfl rfl (any_of HT_.out (by kernel_rfl)) (fun _ _ _ h => h) (Or.inl ⟨by rfl, ?_⟩) ?_ ?_
                          rotate_left
                          · intro w'
                            go_simp
                            with_reducible rfl
                          rotate_left
                          · simp only [Act.put, List.setIfInBounds_toArray, List.set_cons_zero, List.set_cons_succ, i64_w, i32_w]
                            rfl
                          refine pure_ (i := 15) (N := some 61) (v := ?_) (a' := ?_) #[true, true, true, true, true, true, true, true, true, true, true, true, true, true, true, true, false, false, false, false, false, false, false, false, false, false, false, false, false, false, false, false, false, false, false, false, false, false, false, false, false, false, false, false, false, false, false, false, false, false] rfl rfl (any_of HT_.out (by kernel_rfl)) (fun _ _ _ h => h) (Or.inl ⟨by rfl, ?_⟩) ?_ ?_
                          rotate_left
                          · intro w'
                            go_simp
                            with_reducible rfl
                          rotate_left
                          · simp only [Act.put, List.setIfInBounds_toArray, List.set_cons_zero, List.set_cons_succ, i64_w, i32_w]
                            rfl
                          refine take_ (i := 17) (N := some 63) (v := ?_) (a' := ?_) #[true, true, true, true, true, true, true, true, true, true, true, true, true, true, true, true, false, true, false, false, false, false, false, false, false, false, false, false, false, false, false, false, false, false, false, false, false, false, false, false, false, false, false, false, false, false, false, false, false, false] rfl rfl (take_ofW HT_.out HW_.out (by kernel_rfl)) (fun _ _ _ h => h) (Or.inl ⟨by rfl, ?_⟩) hHeld ?_ ?_
                          rotate_left
                          · rintro w' ⟨s0, s1, s2, s3⟩
                            go_simp
                            with_reducible rfl
                          rotate_left
                          · simp only [Act.put, List.setIfInBounds_toArray, List.set_cons_zero, List.set_cons_succ, i64_w, i32_w]
                            rfl
                          refine one_ (i := 16) (N := some 62) #[true, true, true, true, true, true, true, true, true, true, true, true, true, true, true, true, true, true, false, false, false, false, false, false, false, false, false, false, false, false, false, false, false, false, false, false, false, false, false, false, false, false, false, false, false, false, false, false, false, false] rfl rfl (one_of HT_.out (by kernel_rfl)) (by decide) (fun K hK => ?_)
                          refine goes_ Try.func25 (by kernel_rfl) rfl #[.int .u64 4] (by rfl) rfl rfl (by (try simp only [List.map_toArray, List.map_cons, List.map_nil]); first | done | rfl) ?_
                          with_reducible refine (tnum_Of.calls 4 t601 t602 _ A35.out).mono ?_
                          rintro e w55 ⟨rfl, hb⟩
                          refine ⟨_, rfl, ?_⟩
                          have n0_ := Aside0.mk (Kd.R_below (by (with_reducible repeat (first | apply Kd.R_alloc | apply Kd.R_drewN | apply Kd.R_drew)); exact HO_6.out) hb)
                          have n1_ := Aside0.mk (blk_below (g := gb582) (o := .cells #[.int .u64 t579, .int .u64 t580] 24 (0, 0)) (by (with_reducible repeat (first | apply bN_22 | apply bD_22 | apply bA_22)); exact BK582.out) hb)
                          have n2_ := Aside0.mk (blk_below (g := gb586) (o := .cells #[.int .u64 t583, .int .u64 t584] 24 (0, 0)) (by (with_reducible repeat (first | apply bN_22 | apply bD_22 | apply bA_22)); exact BK586.out) hb)
                          have n3_ := Aside0.mk (blk_below (g := gb593) (o := .cells #[.int .u64 t591, .int .u64 t592] 24 (0, 0)) (by (with_reducible repeat (first | apply bN_22 | apply bD_22 | apply bA_22)); exact BK593.out) hb)
                          have n4_ := Aside0.mk (below_step (by repeat (first | (with_reducible first | exact HB.out | apply lA_22 | apply lN_22 | apply lD_22 | refine lS_22 ?_ GE582.out | refine lS_22 ?_ GE586.out | refine lS_22 ?_ GE593.out) | exact HB.out)) hb)
                          clear HO_6
                          clear BK582
                          clear BK586
                          clear BK593
                          clear HB
                          have HO_6 := n0_
                          have BK582 := n1_
                          have BK586 := n2_
                          have BK593 := n3_
                          have HB := n4_
                          clear n0_ n1_ n2_ n3_ n4_
                          (try clear hb)
                          (try clear hb2)
                          (try clear hk)
                          (try clear hi)
                          refine hK.out _ _ ⟨(blk_cell BK582.out 0).trans rfl, (blk_cell BK582.out 1).trans rfl, (blk_cell BK593.out 0).trans rfl, (blk_cell BK593.out 1).trans rfl⟩ (fun hHeld => ?_)
                          clear hK K
                          refine norm_ (a' := ?_) ?_ ?_
                          rotate_left
                          · show Act.put _ (some 62) _ = _
                            simp only [Act.put, List.setIfInBounds_toArray, List.set_cons_zero, List.set_cons_succ, i64_w, i32_w]
                            rfl
                          refine one_ (i := 18) (N := some 64) #[true, true, true, true, true, true, true, true, true, true, true, true, true, true, true, true, true, true, true, false, false, false, false, false, false, false, false, false, false, false, false, false, false, false, false, false, false, false, false, false, false, false, false, false, false, false, false, false, false, false] rfl rfl (one_of HT_.out (by kernel_rfl)) (by decide) (fun K hK => ?_)
                          refine goes_ Try.func13 (by kernel_rfl) rfl #[.agg #[.int .u64 t601, .int .u64 t602], .agg #[.int .u64 t591, .int .u64 t592]] (by rfl) rfl rfl (by (try simp only [List.map_toArray, List.map_cons, List.map_nil]); first | done | rfl) ?_
                          with_reducible refine (tnum_Within.calls t601 t602 t591 t592 true _ A36.out).mono ?_
                          rintro e w56 ⟨rfl, hb⟩
                          refine ⟨_, rfl, ?_⟩
                          have n0_ := Aside0.mk (Kd.R_below (by (with_reducible repeat (first | apply Kd.R_alloc | apply Kd.R_drewN | apply Kd.R_drew)); exact HO_6.out) hb)
                          have n1_ := Aside0.mk (blk_below (g := gb582) (o := .cells #[.int .u64 t579, .int .u64 t580] 24 (0, 0)) (by (with_reducible repeat (first | apply bN_22 | apply bD_22 | apply bA_22)); exact BK582.out) hb)
                          have n2_ := Aside0.mk (blk_below (g := gb586) (o := .cells #[.int .u64 t583, .int .u64 t584] 24 (0, 0)) (by (with_reducible repeat (first | apply bN_22 | apply bD_22 | apply bA_22)); exact BK586.out) hb)
                          have n3_ := Aside0.mk (blk_below (g := gb593) (o := .cells #[.int .u64 t591, .int .u64 t592] 24 (0, 0)) (by (with_reducible repeat (first | apply bN_22 | apply bD_22 | apply bA_22)); exact BK593.out) hb)
                          have n4_ := Aside0.mk (below_step (by repeat (first | (with_reducible first | exact HB.out | apply lA_22 | apply lN_22 | apply lD_22 | refine lS_22 ?_ GE582.out | refine lS_22 ?_ GE586.out | refine lS_22 ?_ GE593.out) | exact HB.out)) hb)
                          clear HO_6
                          clear BK582
                          clear BK586
                          clear BK593
                          clear HB
                          have HO_6 := n0_
                          have BK582 := n1_
                          have BK586 := n2_
                          have BK593 := n3_
                          have HB := n4_
                          clear n0_ n1_ n2_ n3_ n4_
                          (try clear hb)
                          (try clear hb2)
                          (try clear hk)
                          (try clear hi)
                          refine hK.out _ _ ⟨(blk_cell BK582.out 0).trans rfl, (blk_cell BK582.out 1).trans rfl, (blk_cell BK593.out 0).trans rfl, (blk_cell BK593.out 1).trans rfl⟩ (fun hHeld => ?_)
                          clear hK K
                          refine norm_ (a' := ?_) ?_ ?_
                          rotate_left
                          · show Act.put _ (some 64) _ = _
                            simp only [Act.put, List.setIfInBounds_toArray, List.set_cons_zero, List.set_cons_succ, i64_w, i32_w]
                            rfl
                          refine pure_ (i := 19) (N := some 65) (v := ?_) (a' := ?_) #[true, true, true, true, true, true, true, true, true, true, true, true, true, true, true, true, true, true, true, true, false, false, false, false, false, false, false, false, false, false, false, false, false, false, false, false, false, false, false, false, false, false, false, false, false, false, false, false, false, false] rfl rfl (any_of HT_.out (by kernel_rfl)) (fun _ _ _ h => h) (Or.inl ⟨by rfl, ?_⟩) ?_ ?_
                          rotate_left
                          · intro w'
                            go_simp
                            with_reducible rfl
                          rotate_left
                          · simp only [Act.put, List.setIfInBounds_toArray, List.set_cons_zero, List.set_cons_succ, i64_w, i32_w]
                            rfl
                          refine pure_ (i := 20) (N := some 66) (v := ?_) (a' := ?_) #[true, true, true, true, true, true, true, true, true, true, true, true, true, true, true, true, true, true, true, true, true, false, false, false, false, false, false, false, false, false, false, false, false, false, false, false, false, false, false, false, false, false, false, false, false, false, false, false, false, false] rfl rfl (any_of HT_.out (by kernel_rfl)) (fun _ _ _ h => h) (Or.inl ⟨by rfl, ?_⟩) ?_ ?_
                          rotate_left
                          · intro w'
                            go_simp
                            with_reducible rfl
                          rotate_left
                          · simp only [Act.put, List.setIfInBounds_toArray, List.set_cons_zero, List.set_cons_succ, i64_w, i32_w]
                            rfl
                          refine pure_ (i := 21) (N := some 67) (v := ?_) (a' := ?_) #[true, true, true, true, true, true, true, true, true, true, true, true, true, true, true, true, true, true, true, true, true, true, false, false, false, false, false, false, false, false, false, false, false, false, false, false, false, false, false, false, false, false, false, false, false, false, false, false, false, false] rfl rfl (any_of HT_.out (by kernel_rfl)) (fun _ _ _ h => h) (Or.inl ⟨by rfl, ?_⟩) ?_ ?_
                          rotate_left
                          · intro w'
                            go_simp
                            with_reducible rfl
                          rotate_left
                          · simp only [Act.put, List.setIfInBounds_toArray, List.set_cons_zero, List.set_cons_succ, i64_w, i32_w]
                            rfl
                          refine pure_ (i := 24) (N := some 70) (v := ?_) (a' := ?_) #[true, true, true, true, true, true, true, true, true, true, true, true, true, true, true, true, true, true, true, true, true, true, false, false, true, false, false, false, false, false, false, false, false, false, false, false, false, false, false, false, false, false, false, false, false, false, false, false, false, false] rfl rfl (any_of HT_.out (by kernel_rfl)) (fun _ _ _ h => h) (Or.inl ⟨by rfl, ?_⟩) ?_ ?_
                          rotate_left
                          · intro w'
                            go_simp
                            with_reducible rfl
                          rotate_left
                          · simp only [Act.put, List.setIfInBounds_toArray, List.set_cons_zero, List.set_cons_succ, i64_w, i32_w]
                            rfl
                          refine one_ (i := 22) (N := some 68) #[true, true, true, true, true, true, true, true, true, true, true, true, true, true, true, true, true, true, true, true, true, true, true, false, true, false, false, false, false, false, false, false, false, false, false, false, false, false, false, false, false, false, false, false, false, false, false, false, false, false] rfl rfl (one_of HT_.out (by kernel_rfl)) (by decide) (fun K hK => ?_)
                          refine goes_ Try.func25 (by kernel_rfl) rfl #[.int .u64 1] (by rfl) rfl rfl (by (try simp only [List.map_toArray, List.map_cons, List.map_nil]); first | done | rfl) ?_
                          with_reducible refine (tnum_Of.calls 1 t604 t605 _ A38.out).mono ?_
                          rintro e w57 ⟨rfl, hb⟩
                          refine ⟨_, rfl, ?_⟩
                          have n0_ := Aside0.mk (Kd.R_below (by (with_reducible repeat (first | apply Kd.R_alloc | apply Kd.R_drewN | apply Kd.R_drew)); exact HO_6.out) hb)
                          have n1_ := Aside0.mk (blk_below (g := gb582) (o := .cells #[.int .u64 t579, .int .u64 t580] 24 (0, 0)) (by (with_reducible repeat (first | apply bN_22 | apply bD_22 | apply bA_22)); exact BK582.out) hb)
                          have n2_ := Aside0.mk (blk_below (g := gb586) (o := .cells #[.int .u64 t583, .int .u64 t584] 24 (0, 0)) (by (with_reducible repeat (first | apply bN_22 | apply bD_22 | apply bA_22)); exact BK586.out) hb)
                          have n3_ := Aside0.mk (blk_below (g := gb593) (o := .cells #[.int .u64 t591, .int .u64 t592] 24 (0, 0)) (by (with_reducible repeat (first | apply bN_22 | apply bD_22 | apply bA_22)); exact BK593.out) hb)
                          have n4_ := Aside0.mk (below_step (by repeat (first | (with_reducible first | exact HB.out | apply lA_22 | apply lN_22 | apply lD_22 | refine lS_22 ?_ GE582.out | refine lS_22 ?_ GE586.out | refine lS_22 ?_ GE593.out) | exact HB.out)) hb)
                          clear HO_6
                          clear BK582
                          clear BK586
                          clear BK593
                          clear HB
                          have HO_6 := n0_
                          have BK582 := n1_
                          have BK586 := n2_
                          have BK593 := n3_
                          have HB := n4_
                          clear n0_ n1_ n2_ n3_ n4_
                          (try clear hb)
                          (try clear hb2)
                          (try clear hk)
                          (try clear hi)
                          refine hK.out _ _ ⟨(blk_cell BK582.out 0).trans rfl, (blk_cell BK582.out 1).trans rfl, (blk_cell BK593.out 0).trans rfl, (blk_cell BK593.out 1).trans rfl⟩ (fun hHeld => ?_)
                          clear hK K
                          refine norm_ (a' := ?_) ?_ ?_
                          rotate_left
                          · show Act.put _ (some 68) _ = _
                            simp only [Act.put, List.setIfInBounds_toArray, List.set_cons_zero, List.set_cons_succ, i64_w, i32_w]
                            rfl
                          refine one_ (i := 23) (N := some 69) #[true, true, true, true, true, true, true, true, true, true, true, true, true, true, true, true, true, true, true, true, true, true, true, true, true, false, false, false, false, false, false, false, false, false, false, false, false, false, false, false, false, false, false, false, false, false, false, false, false, false] rfl rfl (one_of HT_.out (by kernel_rfl)) (by decide) (fun K hK => ?_)
                          refine goes_ Try.func17 (by kernel_rfl) rfl #[.agg #[.int .u64 0, .int .u64 1], .agg #[.int .u64 t604, .int .u64 t605]] (by rfl) rfl rfl (by (try simp only [List.map_toArray, List.map_cons, List.map_nil]); first | done | rfl) ?_
                          with_reducible refine (tnum_Add.calls 0 1 t604 t605 t606 t607 _ A39.out).mono ?_
                          rintro e w58 ⟨rfl, hb⟩
                          refine ⟨_, rfl, ?_⟩
                          have n0_ := Aside0.mk (Kd.R_below (by (with_reducible repeat (first | apply Kd.R_alloc | apply Kd.R_drewN | apply Kd.R_drew)); exact HO_6.out) hb)
                          have n1_ := Aside0.mk (blk_below (g := gb582) (o := .cells #[.int .u64 t579, .int .u64 t580] 24 (0, 0)) (by (with_reducible repeat (first | apply bN_22 | apply bD_22 | apply bA_22)); exact BK582.out) hb)
                          have n2_ := Aside0.mk (blk_below (g := gb586) (o := .cells #[.int .u64 t583, .int .u64 t584] 24 (0, 0)) (by (with_reducible repeat (first | apply bN_22 | apply bD_22 | apply bA_22)); exact BK586.out) hb)
                          have n3_ := Aside0.mk (blk_below (g := gb593) (o := .cells #[.int .u64 t591, .int .u64 t592] 24 (0, 0)) (by (with_reducible repeat (first | apply bN_22 | apply bD_22 | apply bA_22)); exact BK593.out) hb)
                          have n4_ := Aside0.mk (below_step (by repeat (first | (with_reducible first | exact HB.out | apply lA_22 | apply lN_22 | apply lD_22 | refine lS_22 ?_ GE582.out | refine lS_22 ?_ GE586.out | refine lS_22 ?_ GE593.out) | exact HB.out)) hb)
                          clear HO_6
                          clear BK582
                          clear BK586
                          clear BK593
                          clear HB
                          have HO_6 := n0_
                          have BK582 := n1_
                          have BK586 := n2_
                          have BK593 := n3_
                          have HB := n4_
                          clear n0_ n1_ n2_ n3_ n4_
                          (try clear hb)
                          (try clear hb2)
                          (try clear hk)
                          (try clear hi)
                          refine hK.out _ _ ⟨(blk_cell BK582.out 0).trans rfl, (blk_cell BK582.out 1).trans rfl, (blk_cell BK593.out 0).trans rfl, (blk_cell BK593.out 1).trans rfl⟩ (fun hHeld => ?_)
                          clear hK K
                          refine norm_ (a' := ?_) ?_ ?_
                          rotate_left
                          · show Act.put _ (some 69) _ = _
                            simp only [Act.put, List.setIfInBounds_toArray, List.set_cons_zero, List.set_cons_succ, i64_w, i32_w]
                            rfl
                          refine pure_ (i := 25) (N := some 71) (v := ?_) (a' := ?_) #[true, true, true, true, true, true, true, true, true, true, true, true, true, true, true, true, true, true, true, true, true, true, true, true, true, true, false, false, false, false, false, false, false, false, false, false, false, false, false, false, false, false, false, false, false, false, false, false, false, false] rfl rfl (any_of HT_.out (by kernel_rfl)) (fun _ _ _ h => h) (Or.inl ⟨by rfl, ?_⟩) ?_ ?_
                          rotate_left
                          · intro w'
                            go_simp
                            with_reducible rfl
                          rotate_left
                          · simp only [Act.put, List.setIfInBounds_toArray, List.set_cons_zero, List.set_cons_succ, i64_w, i32_w]
                            rfl
                          refine pure_ (i := 26) (N := some 72) (v := ?_) (a' := ?_) #[true, true, true, true, true, true, true, true, true, true, true, true, true, true, true, true, true, true, true, true, true, true, true, true, true, true, true, false, false, false, false, false, false, false, false, false, false, false, false, false, false, false, false, false, false, false, false, false, false, false] rfl rfl (any_of HT_.out (by kernel_rfl)) (fun _ _ _ h => h) (Or.inl ⟨by rfl, ?_⟩) ?_ ?_
                          rotate_left
                          · intro w'
                            go_simp
                            with_reducible rfl
                          rotate_left
                          · simp only [Act.put, List.setIfInBounds_toArray, List.set_cons_zero, List.set_cons_succ, i64_w, i32_w]
                            rfl
                          refine pure_ (i := 27) (N := some 73) (v := ?_) (a' := ?_) #[true, true, true, true, true, true, true, true, true, true, true, true, true, true, true, true, true, true, true, true, true, true, true, true, true, true, true, true, false, false, false, false, false, false, false, false, false, false, false, false, false, false, false, false, false, false, false, false, false, false] rfl rfl (any_of HT_.out (by kernel_rfl)) (fun _ _ _ h => h) (Or.inl ⟨by rfl, ?_⟩) ?_ ?_
                          rotate_left
                          · intro w'
                            go_simp
                            with_reducible rfl
                          rotate_left
                          · simp only [Act.put, List.setIfInBounds_toArray, List.set_cons_zero, List.set_cons_succ, i64_w, i32_w]
                            rfl
                          refine pure_ (i := 28) (N := some 74) (v := ?_) (a' := ?_) #[true, true, true, true, true, true, true, true, true, true, true, true, true, true, true, true, true, true, true, true, true, true, true, true, true, true, true, true, true, false, false, false, false, false, false, false, false, false, false, false, false, false, false, false, false, false, false, false, false, false] rfl rfl (any_of HT_.out (by kernel_rfl)) (fun _ _ _ h => h) (Or.inl ⟨by rfl, ?_⟩) ?_ ?_
                          rotate_left
                          · intro w'
                            go_simp
                            with_reducible rfl
                          rotate_left
                          · simp only [Act.put, List.setIfInBounds_toArray, List.set_cons_zero, List.set_cons_succ, i64_w, i32_w]
                            rfl
                          refine pure_ (i := 31) (N := some 77) (v := ?_) (a' := ?_) #[true, true, true, true, true, true, true, true, true, true, true, true, true, true, true, true, true, true, true, true, true, true, true, true, true, true, true, true, true, false, false, true, false, false, false, false, false, false, false, false, false, false, false, false, false, false, false, false, false, false] rfl rfl (any_of HT_.out (by kernel_rfl)) (fun _ _ _ h => h) (Or.inl ⟨by rfl, ?_⟩) ?_ ?_
                          rotate_left
                          · intro w'
                            go_simp
                            with_reducible rfl
                          rotate_left
                          · simp only [Act.put, List.setIfInBounds_toArray, List.set_cons_zero, List.set_cons_succ, i64_w, i32_w]
                            rfl
                          refine one_ (i := 29) (N := some 75) #[true, true, true, true, true, true, true, true, true, true, true, true, true, true, true, true, true, true, true, true, true, true, true, true, true, true, true, true, true, true, false, true, false, false, false, false, false, false, false, false, false, false, false, false, false, false, false, false, false, false] rfl rfl (one_of HT_.out (by kernel_rfl)) (by decide) (fun K hK => ?_)
                          refine goes_ Try.func25 (by kernel_rfl) rfl #[.int .u64 3] (by rfl) rfl rfl (by (try simp only [List.map_toArray, List.map_cons, List.map_nil]); first | done | rfl) ?_
                          with_reducible refine (tnum_Of.calls 3 t608 t609 _ A41.out).mono ?_
                          rintro e w59 ⟨rfl, hb⟩
                          refine ⟨_, rfl, ?_⟩
                          have n0_ := Aside0.mk (Kd.R_below (by (with_reducible repeat (first | apply Kd.R_alloc | apply Kd.R_drewN | apply Kd.R_drew)); exact HO_6.out) hb)
                          have n1_ := Aside0.mk (blk_below (g := gb582) (o := .cells #[.int .u64 t579, .int .u64 t580] 24 (0, 0)) (by (with_reducible repeat (first | apply bN_22 | apply bD_22 | apply bA_22)); exact BK582.out) hb)
                          have n2_ := Aside0.mk (blk_below (g := gb586) (o := .cells #[.int .u64 t583, .int .u64 t584] 24 (0, 0)) (by (with_reducible repeat (first | apply bN_22 | apply bD_22 | apply bA_22)); exact BK586.out) hb)
                          have n3_ := Aside0.mk (blk_below (g := gb593) (o := .cells #[.int .u64 t591, .int .u64 t592] 24 (0, 0)) (by (with_reducible repeat (first | apply bN_22 | apply bD_22 | apply bA_22)); exact BK593.out) hb)
                          have n4_ := Aside0.mk (below_step (by repeat (first | (with_reducible first | exact HB.out | apply lA_22 | apply lN_22 | apply lD_22 | refine lS_22 ?_ GE582.out | refine lS_22 ?_ GE586.out | refine lS_22 ?_ GE593.out) | exact HB.out)) hb)
                          clear HO_6
                          clear BK582
                          clear BK586
                          clear BK593
                          clear HB
                          have HO_6 := n0_
                          have BK582 := n1_
                          have BK586 := n2_
                          have BK593 := n3_
                          have HB := n4_
                          clear n0_ n1_ n2_ n3_ n4_
                          (try clear hb)
                          (try clear hb2)
                          (try clear hk)
                          (try clear hi)
                          refine hK.out _ _ ⟨(blk_cell BK582.out 0).trans rfl, (blk_cell BK582.out 1).trans rfl, (blk_cell BK593.out 0).trans rfl, (blk_cell BK593.out 1).trans rfl⟩ (fun hHeld => ?_)
                          clear hK K
                          refine norm_ (a' := ?_) ?_ ?_
                          rotate_left
                          · show Act.put _ (some 75) _ = _
                            simp only [Act.put, List.setIfInBounds_toArray, List.set_cons_zero, List.set_cons_succ, i64_w, i32_w]
                            rfl
                          refine one_ (i := 30) (N := some 76) #[true, true, true, true, true, true, true, true, true, true, true, true, true, true, true, true, true, true, true, true, true, true, true, true, true, true, true, true, true, true, true, true, false, false, false, false, false, false, false, false, false, false, false, false, false, false, false, false, false, false] rfl rfl (one_of HT_.out (by kernel_rfl)) (by decide) (fun K hK => ?_)
                          refine goes_ Try.func21 (by kernel_rfl) rfl #[.agg #[.int .u64 0, .int .u64 2], .agg #[.int .u64 t608, .int .u64 t609]] (by rfl) rfl rfl (by (try simp only [List.map_toArray, List.map_cons, List.map_nil]); first | done | rfl) ?_
                          with_reducible refine (tnum_Mul.calls k1 0 2 t608 t609 t610 t611 _ A42.out).mono ?_
                          rintro e w60 ⟨rfl, hb⟩
                          refine ⟨_, rfl, ?_⟩
                          have n0_ := Aside0.mk (Kd.R_below (by (with_reducible repeat (first | apply Kd.R_alloc | apply Kd.R_drewN | apply Kd.R_drew)); exact HO_6.out) hb)
                          have n1_ := Aside0.mk (blk_below (g := gb582) (o := .cells #[.int .u64 t579, .int .u64 t580] 24 (0, 0)) (by (with_reducible repeat (first | apply bN_22 | apply bD_22 | apply bA_22)); exact BK582.out) hb)
                          have n2_ := Aside0.mk (blk_below (g := gb586) (o := .cells #[.int .u64 t583, .int .u64 t584] 24 (0, 0)) (by (with_reducible repeat (first | apply bN_22 | apply bD_22 | apply bA_22)); exact BK586.out) hb)
                          have n3_ := Aside0.mk (blk_below (g := gb593) (o := .cells #[.int .u64 t591, .int .u64 t592] 24 (0, 0)) (by (with_reducible repeat (first | apply bN_22 | apply bD_22 | apply bA_22)); exact BK593.out) hb)
                          have n4_ := Aside0.mk (below_step (by repeat (first | (with_reducible first | exact HB.out | apply lA_22 | apply lN_22 | apply lD_22 | refine lS_22 ?_ GE582.out | refine lS_22 ?_ GE586.out | refine lS_22 ?_ GE593.out) | exact HB.out)) hb)
                          clear HO_6
                          clear BK582
                          clear BK586
                          clear BK593
                          clear HB
                          have HO_6 := n0_
                          have BK582 := n1_
                          have BK586 := n2_
                          have BK593 := n3_
                          have HB := n4_
                          clear n0_ n1_ n2_ n3_ n4_
                          (try clear hb)
                          (try clear hb2)
                          (try clear hk)
                          (try clear hi)
                          refine hK.out _ _ ⟨(blk_cell BK582.out 0).trans rfl, (blk_cell BK582.out 1).trans rfl, (blk_cell BK593.out 0).trans rfl, (blk_cell BK593.out 1).trans rfl⟩ (fun hHeld => ?_)
                          clear hK K
                          refine norm_ (a' := ?_) ?_ ?_
                          rotate_left
                          · show Act.put _ (some 76) _ = _
                            simp only [Act.put, List.setIfInBounds_toArray, List.set_cons_zero, List.set_cons_succ, i64_w, i32_w]
                            rfl
                          refine pure_ (i := 32) (N := some 78) (v := ?_) (a' := ?_) #[true, true, true, true, true, true, true, true, true, true, true, true, true, true, true, true, true, true, true, true, true, true, true, true, true, true, true, true, true, true, true, true, true, false, false, false, false, false, false, false, false, false, false, false, false, false, false, false, false, false] rfl rfl (any_of HT_.out (by kernel_rfl)) (fun _ _ _ h => h) (Or.inl ⟨by rfl, ?_⟩) ?_ ?_
                          rotate_left
                          · intro w'
                            go_simp
                            with_reducible rfl
                          rotate_left
                          · simp only [Act.put, List.setIfInBounds_toArray, List.set_cons_zero, List.set_cons_succ, i64_w, i32_w]
                            rfl
                          refine pure_ (i := 33) (N := some 79) (v := ?_) (a' := ?_) #[true, true, true, true, true, true, true, true, true, true, true, true, true, true, true, true, true, true, true, true, true, true, true, true, true, true, true, true, true, true, true, true, true, true, false, false, false, false, false, false, false, false, false, false, false, false, false, false, false, false] rfl rfl (any_of HT_.out (by kernel_rfl)) (fun _ _ _ h => h) (Or.inl ⟨by rfl, ?_⟩) ?_ ?_
                          rotate_left
                          · intro w'
                            go_simp
                            with_reducible rfl
                          rotate_left
                          · simp only [Act.put, List.setIfInBounds_toArray, List.set_cons_zero, List.set_cons_succ, i64_w, i32_w]
                            rfl
                          refine pure_ (i := 34) (N := some 80) (v := ?_) (a' := ?_) #[true, true, true, true, true, true, true, true, true, true, true, true, true, true, true, true, true, true, true, true, true, true, true, true, true, true, true, true, true, true, true, true, true, true, true, false, false, false, false, false, false, false, false, false, false, false, false, false, false, false] rfl rfl (any_of HT_.out (by kernel_rfl)) (fun _ _ _ h => h) (Or.inl ⟨by rfl, ?_⟩) ?_ ?_
                          rotate_left
                          · intro w'
                            go_simp
                            with_reducible rfl
                          rotate_left
                          · simp only [Act.put, List.setIfInBounds_toArray, List.set_cons_zero, List.set_cons_succ, i64_w, i32_w]
                            rfl
                          refine one_ (i := 35) (N := some 81) #[true, true, true, true, true, true, true, true, true, true, true, true, true, true, true, true, true, true, true, true, true, true, true, true, true, true, true, true, true, true, true, true, true, true, true, true, false, false, false, false, false, false, false, false, false, false, false, false, false, false] rfl rfl (one_of HT_.out (by kernel_rfl)) (by decide) (fun K hK => ?_)
                          refine goes_ Try.func27 (by kernel_rfl) rfl #[] (by rfl) rfl rfl (by (try simp only [List.map_toArray, List.map_cons, List.map_nil]); first | done | rfl) ?_
                          with_reducible refine (tnum_Any.calls  t612 t613 _ A44.out).mono ?_
                          rintro e w61 ⟨rfl, hb⟩
                          refine ⟨_, rfl, ?_⟩
                          have n0_ := Aside0.mk (Kd.R_below (by (with_reducible repeat (first | apply Kd.R_alloc | apply Kd.R_drewN | apply Kd.R_drew)); exact HO_6.out) hb)
                          have n1_ := Aside0.mk (blk_below (g := gb582) (o := .cells #[.int .u64 t579, .int .u64 t580] 24 (0, 0)) (by (with_reducible repeat (first | apply bN_22 | apply bD_22 | apply bA_22)); exact BK582.out) hb)
                          have n2_ := Aside0.mk (blk_below (g := gb586) (o := .cells #[.int .u64 t583, .int .u64 t584] 24 (0, 0)) (by (with_reducible repeat (first | apply bN_22 | apply bD_22 | apply bA_22)); exact BK586.out) hb)
                          have n3_ := Aside0.mk (blk_below (g := gb593) (o := .cells #[.int .u64 t591, .int .u64 t592] 24 (0, 0)) (by (with_reducible repeat (first | apply bN_22 | apply bD_22 | apply bA_22)); exact BK593.out) hb)
                          have n4_ := Aside0.mk (below_step (by repeat (first | (with_reducible first | exact HB.out | apply lA_22 | apply lN_22 | apply lD_22 | refine lS_22 ?_ GE582.out | refine lS_22 ?_ GE586.out | refine lS_22 ?_ GE593.out) | exact HB.out)) hb)
                          clear HO_6
                          clear BK582
                          clear BK586
                          clear BK593
                          clear HB
                          have HO_6 := n0_
                          have BK582 := n1_
                          have BK586 := n2_
                          have BK593 := n3_
                          have HB := n4_
                          clear n0_ n1_ n2_ n3_ n4_
                          (try clear hb)
                          (try clear hb2)
                          (try clear hk)
                          (try clear hi)
                          refine hK.out _ _ ⟨(blk_cell BK582.out 0).trans rfl, (blk_cell BK582.out 1).trans rfl, (blk_cell BK593.out 0).trans rfl, (blk_cell BK593.out 1).trans rfl⟩ (fun hHeld => ?_)
                          clear hK K
                          refine norm_ (a' := ?_) ?_ ?_
                          rotate_left
                          · show Act.put _ (some 81) _ = _
                            simp only [Act.put, List.setIfInBounds_toArray, List.set_cons_zero, List.set_cons_succ, i64_w, i32_w]
                            rfl
                          refine one_ (i := 36) (N := some 82) #[true, true, true, true, true, true, true, true, true, true, true, true, true, true, true, true, true, true, true, true, true, true, true, true, true, true, true, true, true, true, true, true, true, true, true, true, true, false, false, false, false, false, false, false, false, false, false, false, false, false] rfl rfl (one_of HT_.out (by kernel_rfl)) (by decide) (fun K hK => ?_)
                          refine goes_ Try.func45 (by kernel_rfl) rfl #[.agg #[.int .u64 t612, .int .u64 t613], .int .i64 0] (by rfl) rfl rfl (by (try simp only [List.map_toArray, List.map_cons, List.map_nil]); first | done | rfl) ?_
                          with_reducible refine (tnum_Cut.calls t612 t613 0 t614 t615 _ A45.out).mono ?_
                          rintro e w62 ⟨rfl, hb⟩
                          refine ⟨_, rfl, ?_⟩
                          have n0_ := Aside0.mk (Kd.R_below (by (with_reducible repeat (first | apply Kd.R_alloc | apply Kd.R_drewN | apply Kd.R_drew)); exact HO_6.out) hb)
                          have n1_ := Aside0.mk (blk_below (g := gb582) (o := .cells #[.int .u64 t579, .int .u64 t580] 24 (0, 0)) (by (with_reducible repeat (first | apply bN_22 | apply bD_22 | apply bA_22)); exact BK582.out) hb)
                          have n2_ := Aside0.mk (blk_below (g := gb586) (o := .cells #[.int .u64 t583, .int .u64 t584] 24 (0, 0)) (by (with_reducible repeat (first | apply bN_22 | apply bD_22 | apply bA_22)); exact BK586.out) hb)
                          have n3_ := Aside0.mk (blk_below (g := gb593) (o := .cells #[.int .u64 t591, .int .u64 t592] 24 (0, 0)) (by (with_reducible repeat (first | apply bN_22 | apply bD_22 | apply bA_22)); exact BK593.out) hb)
                          have n4_ := Aside0.mk (below_step (by repeat (first | (with_reducible first | exact HB.out | apply lA_22 | apply lN_22 | apply lD_22 | refine lS_22 ?_ GE582.out | refine lS_22 ?_ GE586.out | refine lS_22 ?_ GE593.out) | exact HB.out)) hb)
                          clear HO_6
                          clear BK582
                          clear BK586
                          clear BK593
                          clear HB
                          have HO_6 := n0_
                          have BK582 := n1_
                          have BK586 := n2_
                          have BK593 := n3_
                          have HB := n4_
                          clear n0_ n1_ n2_ n3_ n4_
                          (try clear hb)
                          (try clear hb2)
                          (try clear hk)
                          (try clear hi)
                          refine hK.out _ _ ⟨(blk_cell BK582.out 0).trans rfl, (blk_cell BK582.out 1).trans rfl, (blk_cell BK593.out 0).trans rfl, (blk_cell BK593.out 1).trans rfl⟩ (fun hHeld => ?_)
                          clear hK K
                          refine norm_ (a' := ?_) ?_ ?_
                          rotate_left
                          · show Act.put _ (some 82) _ = _
                            simp only [Act.put, List.setIfInBounds_toArray, List.set_cons_zero, List.set_cons_succ, i64_w, i32_w]
                            rfl
                          refine one_ (i := 37) (N := some 83) #[true, true, true, true, true, true, true, true, true, true, true, true, true, true, true, true, true, true, true, true, true, true, true, true, true, true, true, true, true, true, true, true, true, true, true, true, true, true, false, false, false, false, false, false, false, false, false, false, false, false] rfl rfl (one_of HT_.out (by kernel_rfl)) (by decide) (fun K hK => ?_)
                          refine goes_ Try.func25 (by kernel_rfl) rfl #[.int .u64 0] (by rfl) rfl rfl (by (try simp only [List.map_toArray, List.map_cons, List.map_nil]); first | done | rfl) ?_
                          with_reducible refine (tnum_Of.calls 0 t616 t617 _ A46.out).mono ?_
                          rintro e w63 ⟨rfl, hb⟩
                          refine ⟨_, rfl, ?_⟩
                          have n0_ := Aside0.mk (Kd.R_below (by (with_reducible repeat (first | apply Kd.R_alloc | apply Kd.R_drewN | apply Kd.R_drew)); exact HO_6.out) hb)
                          have n1_ := Aside0.mk (blk_below (g := gb582) (o := .cells #[.int .u64 t579, .int .u64 t580] 24 (0, 0)) (by (with_reducible repeat (first | apply bN_22 | apply bD_22 | apply bA_22)); exact BK582.out) hb)
                          have n2_ := Aside0.mk (blk_below (g := gb586) (o := .cells #[.int .u64 t583, .int .u64 t584] 24 (0, 0)) (by (with_reducible repeat (first | apply bN_22 | apply bD_22 | apply bA_22)); exact BK586.out) hb)
                          have n3_ := Aside0.mk (blk_below (g := gb593) (o := .cells #[.int .u64 t591, .int .u64 t592] 24 (0, 0)) (by (with_reducible repeat (first | apply bN_22 | apply bD_22 | apply bA_22)); exact BK593.out) hb)
                          have n4_ := Aside0.mk (below_step (by repeat (first | (with_reducible first | exact HB.out | apply lA_22 | apply lN_22 | apply lD_22 | refine lS_22 ?_ GE582.out | refine lS_22 ?_ GE586.out | refine lS_22 ?_ GE593.out) | exact HB.out)) hb)
                          clear HO_6
                          clear BK582
                          clear BK586
                          clear BK593
                          clear HB
                          have HO_6 := n0_
                          have BK582 := n1_
                          have BK586 := n2_
                          have BK593 := n3_
                          have HB := n4_
                          clear n0_ n1_ n2_ n3_ n4_
                          (try clear hb)
                          (try clear hb2)
                          (try clear hk)
                          (try clear hi)
                          refine hK.out _ _ ⟨(blk_cell BK582.out 0).trans rfl, (blk_cell BK582.out 1).trans rfl, (blk_cell BK593.out 0).trans rfl, (blk_cell BK593.out 1).trans rfl⟩ (fun hHeld => ?_)
                          clear hK K
                          refine norm_ (a' := ?_) ?_ ?_
                          rotate_left
                          · show Act.put _ (some 83) _ = _
                            simp only [Act.put, List.setIfInBounds_toArray, List.set_cons_zero, List.set_cons_succ, i64_w, i32_w]
                            rfl
                          refine pure_ (i := 38) (N := some 84) (v := ?_) (a' := ?_) #[true, true, true, true, true, true, true, true, true, true, true, true, true, true, true, true, true, true, true, true, true, true, true, true, true, true, true, true, true, true, true, true, true, true, true, true, true, true, true, false, false, false, false, false, false, false, false, false, false, false] rfl rfl (any_of HT_.out (by kernel_rfl)) (fun _ _ _ h => h) (Or.inl ⟨by rfl, ?_⟩) ?_ ?_
                          rotate_left
                          · intro w'
                            go_simp
                            with_reducible rfl
                          rotate_left
                          · simp only [Act.put, List.setIfInBounds_toArray, List.set_cons_zero, List.set_cons_succ, i64_w, i32_w]
                            rfl
                          refine pure_ (i := 39) (N := some 85) (v := ?_) (a' := ?_) #[true, true, true, true, true, true, true, true, true, true, true, true, true, true, true, true, true, true, true, true, true, true, true, true, true, true, true, true, true, true, true, true, true, true, true, true, true, true, true, true, false, false, false, false, false, false, false, false, false, false] rfl rfl (any_of HT_.out (by kernel_rfl)) (fun _ _ _ h => h) (Or.inl ⟨by rfl, ?_⟩) ?_ ?_
                          rotate_left
                          · intro w'
                            go_simp
                            with_reducible rfl
                          rotate_left
                          · simp only [Act.put, List.setIfInBounds_toArray, List.set_cons_zero, List.set_cons_succ, i64_w, i32_w]
                            rfl
                          refine pure_ (i := 40) (N := some 86) (v := ?_) (a' := ?_) #[true, true, true, true, true, true, true, true, true, true, true, true, true, true, true, true, true, true, true, true, true, true, true, true, true, true, true, true, true, true, true, true, true, true, true, true, true, true, true, true, true, false, false, false, false, false, false, false, false, false] rfl rfl (any_of HT_.out (by kernel_rfl)) (fun _ _ _ h => h) (Or.inl ⟨by rfl, ?_⟩) ?_ ?_
                          rotate_left
                          · intro w'
                            go_simp
                            with_reducible rfl
                          rotate_left
                          · simp only [Act.put, List.setIfInBounds_toArray, List.set_cons_zero, List.set_cons_succ, i64_w, i32_w]
                            rfl
                          refine one_ (i := 41) (N := some 87) #[true, true, true, true, true, true, true, true, true, true, true, true, true, true, true, true, true, true, true, true, true, true, true, true, true, true, true, true, true, true, true, true, true, true, true, true, true, true, true, true, true, true, false, false, false, false, false, false, false, false] rfl rfl (one_of HT_.out (by kernel_rfl)) (by decide) (fun K hK => ?_)
                          refine goes_ Try.func25 (by kernel_rfl) rfl #[.int .u64 1] (by rfl) rfl rfl (by (try simp only [List.map_toArray, List.map_cons, List.map_nil]); first | done | rfl) ?_
                          with_reducible refine (tnum_Of.calls 1 t618 t619 _ A48.out).mono ?_
                          rintro e w64 ⟨rfl, hb⟩
                          refine ⟨_, rfl, ?_⟩
                          have n0_ := Aside0.mk (Kd.R_below (by (with_reducible repeat (first | apply Kd.R_alloc | apply Kd.R_drewN | apply Kd.R_drew)); exact HO_6.out) hb)
                          have n1_ := Aside0.mk (blk_below (g := gb582) (o := .cells #[.int .u64 t579, .int .u64 t580] 24 (0, 0)) (by (with_reducible repeat (first | apply bN_22 | apply bD_22 | apply bA_22)); exact BK582.out) hb)
                          have n2_ := Aside0.mk (blk_below (g := gb586) (o := .cells #[.int .u64 t583, .int .u64 t584] 24 (0, 0)) (by (with_reducible repeat (first | apply bN_22 | apply bD_22 | apply bA_22)); exact BK586.out) hb)
                          have n3_ := Aside0.mk (blk_below (g := gb593) (o := .cells #[.int .u64 t591, .int .u64 t592] 24 (0, 0)) (by (with_reducible repeat (first | apply bN_22 | apply bD_22 | apply bA_22)); exact BK593.out) hb)
                          have n4_ := Aside0.mk (below_step (by repeat (first | (with_reducible first | exact HB.out | apply lA_22 | apply lN_22 | apply lD_22 | refine lS_22 ?_ GE582.out | refine lS_22 ?_ GE586.out | refine lS_22 ?_ GE593.out) | exact HB.out)) hb)
                          clear HO_6
                          clear BK582
                          clear BK586
                          clear BK593
                          clear HB
                          have HO_6 := n0_
                          have BK582 := n1_
                          have BK586 := n2_
                          have BK593 := n3_
                          have HB := n4_
                          clear n0_ n1_ n2_ n3_ n4_
                          (try clear hb)
                          (try clear hb2)
                          (try clear hk)
                          (try clear hi)
                          refine hK.out _ _ ⟨(blk_cell BK582.out 0).trans rfl, (blk_cell BK582.out 1).trans rfl, (blk_cell BK593.out 0).trans rfl, (blk_cell BK593.out 1).trans rfl⟩ (fun hHeld => ?_)
                          clear hK K
                          refine norm_ (a' := ?_) ?_ ?_
                          rotate_left
                          · show Act.put _ (some 87) _ = _
                            simp only [Act.put, List.setIfInBounds_toArray, List.set_cons_zero, List.set_cons_succ, i64_w, i32_w]
                            rfl
                          refine one_ (i := 42) (N := some 88) #[true, true, true, true, true, true, true, true, true, true, true, true, true, true, true, true, true, true, true, true, true, true, true, true, true, true, true, true, true, true, true, true, true, true, true, true, true, true, true, true, true, true, true, false, false, false, false, false, false, false] rfl rfl (one_of HT_.out (by kernel_rfl)) (by decide) (fun K hK => ?_)
                          refine goes_ Try.func37 (by kernel_rfl) rfl #[.agg #[.int .u64 t618, .int .u64 t619], .int .i64 0, .int .i64 16] (by rfl) rfl rfl (by (try simp only [List.map_toArray, List.map_cons, List.map_nil]); first | done | rfl) ?_
                          with_reducible refine (tnum_Arsh.calls t618 t619 0 16 t620 t621 _ A49.out).mono ?_
                          rintro e w65 ⟨rfl, hb⟩
                          refine ⟨_, rfl, ?_⟩
                          have n0_ := Aside0.mk (Kd.R_below (by (with_reducible repeat (first | apply Kd.R_alloc | apply Kd.R_drewN | apply Kd.R_drew)); exact HO_6.out) hb)
                          have n1_ := Aside0.mk (blk_below (g := gb582) (o := .cells #[.int .u64 t579, .int .u64 t580] 24 (0, 0)) (by (with_reducible repeat (first | apply bN_22 | apply bD_22 | apply bA_22)); exact BK582.out) hb)
                          have n2_ := Aside0.mk (blk_below (g := gb586) (o := .cells #[.int .u64 t583, .int .u64 t584] 24 (0, 0)) (by (with_reducible repeat (first | apply bN_22 | apply bD_22 | apply bA_22)); exact BK586.out) hb)
                          have n3_ := Aside0.mk (blk_below (g := gb593) (o := .cells #[.int .u64 t591, .int .u64 t592] 24 (0, 0)) (by (with_reducible repeat (first | apply bN_22 | apply bD_22 | apply bA_22)); exact BK593.out) hb)
                          have n4_ := Aside0.mk (below_step (by repeat (first | (with_reducible first | exact HB.out | apply lA_22 | apply lN_22 | apply lD_22 | refine lS_22 ?_ GE582.out | refine lS_22 ?_ GE586.out | refine lS_22 ?_ GE593.out) | exact HB.out)) hb)
                          clear HO_6
                          clear BK582
                          clear BK586
                          clear BK593
                          clear HB
                          have HO_6 := n0_
                          have BK582 := n1_
                          have BK586 := n2_
                          have BK593 := n3_
                          have HB := n4_
                          clear n0_ n1_ n2_ n3_ n4_
                          (try clear hb)
                          (try clear hb2)
                          (try clear hk)
                          (try clear hi)
                          refine hK.out _ _ ⟨(blk_cell BK582.out 0).trans rfl, (blk_cell BK582.out 1).trans rfl, (blk_cell BK593.out 0).trans rfl, (blk_cell BK593.out 1).trans rfl⟩ (fun hHeld => ?_)
                          clear hK K
                          refine norm_ (a' := ?_) ?_ ?_
                          rotate_left
                          · show Act.put _ (some 88) _ = _
                            simp only [Act.put, List.setIfInBounds_toArray, List.set_cons_zero, List.set_cons_succ, i64_w, i32_w]
                            rfl
                          refine one_ (i := 43) (N := some 89) #[true, true, true, true, true, true, true, true, true, true, true, true, true, true, true, true, true, true, true, true, true, true, true, true, true, true, true, true, true, true, true, true, true, true, true, true, true, true, true, true, true, true, true, true, false, false, false, false, false, false] rfl rfl (one_of HT_.out (by kernel_rfl)) (by decide) (fun K hK => ?_)
                          refine goes_ Try.func27 (by kernel_rfl) rfl #[] (by rfl) rfl rfl (by (try simp only [List.map_toArray, List.map_cons, List.map_nil]); first | done | rfl) ?_
                          with_reducible refine (tnum_Any.calls  t622 t623 _ A50.out).mono ?_
                          rintro e w66 ⟨rfl, hb⟩
                          refine ⟨_, rfl, ?_⟩
                          have n0_ := Aside0.mk (Kd.R_below (by (with_reducible repeat (first | apply Kd.R_alloc | apply Kd.R_drewN | apply Kd.R_drew)); exact HO_6.out) hb)
                          have n1_ := Aside0.mk (blk_below (g := gb582) (o := .cells #[.int .u64 t579, .int .u64 t580] 24 (0, 0)) (by (with_reducible repeat (first | apply bN_22 | apply bD_22 | apply bA_22)); exact BK582.out) hb)
                          have n2_ := Aside0.mk (blk_below (g := gb586) (o := .cells #[.int .u64 t583, .int .u64 t584] 24 (0, 0)) (by (with_reducible repeat (first | apply bN_22 | apply bD_22 | apply bA_22)); exact BK586.out) hb)
                          have n3_ := Aside0.mk (blk_below (g := gb593) (o := .cells #[.int .u64 t591, .int .u64 t592] 24 (0, 0)) (by (with_reducible repeat (first | apply bN_22 | apply bD_22 | apply bA_22)); exact BK593.out) hb)
                          have n4_ := Aside0.mk (below_step (by repeat (first | (with_reducible first | exact HB.out | apply lA_22 | apply lN_22 | apply lD_22 | refine lS_22 ?_ GE582.out | refine lS_22 ?_ GE586.out | refine lS_22 ?_ GE593.out) | exact HB.out)) hb)
                          clear HO_6
                          clear BK582
                          clear BK586
                          clear BK593
                          clear HB
                          have HO_6 := n0_
                          have BK582 := n1_
                          have BK586 := n2_
                          have BK593 := n3_
                          have HB := n4_
                          clear n0_ n1_ n2_ n3_ n4_
                          (try clear hb)
                          (try clear hb2)
                          (try clear hk)
                          (try clear hi)
                          refine hK.out _ _ ⟨(blk_cell BK582.out 0).trans rfl, (blk_cell BK582.out 1).trans rfl, (blk_cell BK593.out 0).trans rfl, (blk_cell BK593.out 1).trans rfl⟩ (fun hHeld => ?_)
                          clear hK K
                          refine norm_ (a' := ?_) ?_ ?_
                          rotate_left
                          · show Act.put _ (some 89) _ = _
                            simp only [Act.put, List.setIfInBounds_toArray, List.set_cons_zero, List.set_cons_succ, i64_w, i32_w]
                            rfl
                          refine pure_ (i := 44) (N := some 90) (v := ?_) (a' := ?_) #[true, true, true, true, true, true, true, true, true, true, true, true, true, true, true, true, true, true, true, true, true, true, true, true, true, true, true, true, true, true, true, true, true, true, true, true, true, true, true, true, true, true, true, true, true, false, false, false, false, false] rfl rfl (any_of HT_.out (by kernel_rfl)) (fun _ _ _ h => h) (Or.inl ⟨by rfl, ?_⟩) ?_ ?_
                          rotate_left
                          · intro w'
                            go_simp
                            with_reducible rfl
                          rotate_left
                          · simp only [Act.put, List.setIfInBounds_toArray, List.set_cons_zero, List.set_cons_succ, i64_w, i32_w]
                            rfl
                          refine pure_ (i := 45) (N := some 91) (v := ?_) (a' := ?_) #[true, true, true, true, true, true, true, true, true, true, true, true, true, true, true, true, true, true, true, true, true, true, true, true, true, true, true, true, true, true, true, true, true, true, true, true, true, true, true, true, true, true, true, true, true, true, false, false, false, false] rfl rfl (any_of HT_.out (by kernel_rfl)) (fun _ _ _ h => h) (Or.inl ⟨by rfl, ?_⟩) ?_ ?_
                          rotate_left
                          · intro w'
                            go_simp
                            with_reducible rfl
                          rotate_left
                          · simp only [Act.put, List.setIfInBounds_toArray, List.set_cons_zero, List.set_cons_succ, i64_w, i32_w]
                            rfl
                          refine pure_ (i := 46) (N := some 92) (v := ?_) (a' := ?_) #[true, true, true, true, true, true, true, true, true, true, true, true, true, true, true, true, true, true, true, true, true, true, true, true, true, true, true, true, true, true, true, true, true, true, true, true, true, true, true, true, true, true, true, true, true, true, true, false, false, false] rfl rfl (any_of HT_.out (by kernel_rfl)) (fun _ _ _ h => h) (Or.inl ⟨by rfl, ?_⟩) ?_ ?_
                          rotate_left
                          · intro w'
                            go_simp
                            with_reducible rfl
                          rotate_left
                          · simp only [Act.put, List.setIfInBounds_toArray, List.set_cons_zero, List.set_cons_succ, i64_w, i32_w]
                            rfl
                          refine one_ (i := 47) (N := some 93) #[true, true, true, true, true, true, true, true, true, true, true, true, true, true, true, true, true, true, true, true, true, true, true, true, true, true, true, true, true, true, true, true, true, true, true, true, true, true, true, true, true, true, true, true, true, true, true, true, false, false] rfl rfl (one_of HT_.out (by kernel_rfl)) (by decide) (fun K hK => ?_)
                          refine goes_ Try.func16 (by kernel_rfl) rfl #[] (by rfl) rfl rfl (by (try simp only [List.map_toArray, List.map_cons, List.map_nil]); first | done | rfl) ?_
                          with_reducible refine (lockgatelaw03_known.calls k1  t624 _ A52.out).mono ?_
                          rintro e w67 ⟨rfl, hb⟩
                          refine ⟨_, rfl, ?_⟩
                          have n0_ := Aside0.mk (Kd.R_below (by (with_reducible repeat (first | apply Kd.R_alloc | apply Kd.R_drewN | apply Kd.R_drew)); exact HO_6.out) hb)
                          have n1_ := Aside0.mk (blk_below (g := gb582) (o := .cells #[.int .u64 t579, .int .u64 t580] 24 (0, 0)) (by (with_reducible repeat (first | apply bN_22 | apply bD_22 | apply bA_22)); exact BK582.out) hb)
                          have n2_ := Aside0.mk (blk_below (g := gb586) (o := .cells #[.int .u64 t583, .int .u64 t584] 24 (0, 0)) (by (with_reducible repeat (first | apply bN_22 | apply bD_22 | apply bA_22)); exact BK586.out) hb)
                          have n3_ := Aside0.mk (blk_below (g := gb593) (o := .cells #[.int .u64 t591, .int .u64 t592] 24 (0, 0)) (by (with_reducible repeat (first | apply bN_22 | apply bD_22 | apply bA_22)); exact BK593.out) hb)
                          have n4_ := Aside0.mk (below_step (by repeat (first | (with_reducible first | exact HB.out | apply lA_22 | apply lN_22 | apply lD_22 | refine lS_22 ?_ GE582.out | refine lS_22 ?_ GE586.out | refine lS_22 ?_ GE593.out) | exact HB.out)) hb)
                          clear HO_6
                          clear BK582
                          clear BK586
                          clear BK593
                          clear HB
                          have HO_6 := n0_
                          have BK582 := n1_
                          have BK586 := n2_
                          have BK593 := n3_
                          have HB := n4_
                          clear n0_ n1_ n2_ n3_ n4_
                          (try clear hb)
                          (try clear hb2)
                          (try clear hk)
                          (try clear hi)
                          refine hK.out _ _ ⟨(blk_cell BK582.out 0).trans rfl, (blk_cell BK582.out 1).trans rfl, (blk_cell BK593.out 0).trans rfl, (blk_cell BK593.out 1).trans rfl⟩ (fun hHeld => ?_)
                          clear hK K
                          refine norm_ (a' := ?_) ?_ ?_
                          rotate_left
                          · show Act.put _ (some 93) _ = _
                            simp only [Act.put, List.setIfInBounds_toArray, List.set_cons_zero, List.set_cons_succ, i64_w, i32_w]
                            rfl
                          refine pure_ (i := 48) (N := some 94) (v := ?_) (a' := ?_) #[true, true, true, true, true, true, true, true, true, true, true, true, true, true, true, true, true, true, true, true, true, true, true, true, true, true, true, true, true, true, true, true, true, true, true, true, true, true, true, true, true, true, true, true, true, true, true, true, true, false] rfl rfl (any_of HT_.out (by kernel_rfl)) (fun _ _ _ h => h) (Or.inl ⟨by rfl, ?_⟩) ?_ ?_
                          rotate_left
                          · intro w'
                            go_simp
                            with_reducible rfl
                          rotate_left
                          · simp only [Act.put, List.setIfInBounds_toArray, List.set_cons_zero, List.set_cons_succ, i64_w, i32_w]
                            rfl
                          refine pure_ (i := 49) (N := some 0) (v := ?_) (a' := ?_) #[true, true, true, true, true, true, true, true, true, true, true, true, true, true, true, true, true, true, true, true, true, true, true, true, true, true, true, true, true, true, true, true, true, true, true, true, true, true, true, true, true, true, true, true, true, true, true, true, true, true] rfl rfl (any_of HT_.out (by kernel_rfl)) (fun _ _ _ h => h) (Or.inl ⟨by rfl, ?_⟩) ?_ ?_
                          rotate_left
                          · intro w'
                            go_simp
                            with_reducible rfl
                          rotate_left
                          · simp only [Act.put, List.setIfInBounds_toArray, List.set_cons_zero, List.set_cons_succ, i64_w, i32_w]
                            rfl
                          refine done_ (done_of HT_.out (by kernel_rfl)) ?_
                          try go_wp2
                          go_ret
                          exact ⟨by first | rfl | (simp [errW_none, errW_some] <;> rfl) | (simp [*, errW_none, errW_some] <;> rfl), by repeat (first | (with_reducible first | exact HB.out | apply lA_22 | apply lN_22 | apply lD_22 | refine lS_22 ?_ GE582.out | refine lS_22 ?_ GE586.out | refine lS_22 ?_ GE593.out) | exact HB.out)⟩
                        · rw [if_neg c51] at H
                          have c51b0 : (t620 == t622 && (t621 == t623)) = false := by simpa using c51
                          (try (have c51b1 : decide (t620 = t622 && (t621 == t623)) = false := by simpa using c51))
                          (try (have c51b2 : (t620 == t622 && (t621 == t623)) = false := by simpa using c51))
                          (try (have c51b3 : ¬ (t620 = t622 && (t621 == t623)) := by simpa using c51))
                          clear c51
                          exact absurd ((Option.some.inj H).trans HRT.out) (by decide)
                      · rw [if_neg c47] at H
                        have c47b0 : (t614 == t616 && (t615 == t617)) = false := by simpa using c47
                        (try (have c47b1 : decide (t614 = t616 && (t615 == t617)) = false := by simpa using c47))
                        (try (have c47b2 : (t614 == t616 && (t615 == t617)) = false := by simpa using c47))
                        (try (have c47b3 : ¬ (t614 = t616 && (t615 == t617)) := by simpa using c47))
                        clear c47
                        exact absurd ((Option.some.inj H).trans HRT.out) (by decide)
                    · rw [if_neg c43] at H
                      have c43b0 : (t610 == 0 && (t611 == 6)) = false := by simpa using c43
                      (try (have c43b1 : decide (t610 = 0 && (t611 == 6)) = false := by simpa using c43))
                      (try (have c43b2 : (t610 == 0 && (t611 == 6)) = false := by simpa using c43))
                      (try (have c43b3 : ¬ (t610 = 0 && (t611 == 6)) := by simpa using c43))
                      clear c43
                      exact absurd ((Option.some.inj H).trans HRT.out) (by decide)
                  · rw [if_neg c40] at H
                    have c40b0 : (t606 == 0 && (t607 == 3)) = false := by simpa using c40
                    (try (have c40b1 : decide (t606 = 0 && (t607 == 3)) = false := by simpa using c40))
                    (try (have c40b2 : (t606 == 0 && (t607 == 3)) = false := by simpa using c40))
                    (try (have c40b3 : ¬ (t606 = 0 && (t607 == 3)) := by simpa using c40))
                    clear c40
                    exact absurd ((Option.some.inj H).trans HRT.out) (by decide)
                · replace c37 := Bool.eq_false_iff.mpr c37
                  subst c37
                  have H1 : (some false) = some r := by rw [if_neg (show ¬ (false = true) by decide)] at H; exact H
                  clear H
                  have H := H1
                  clear H1
                  exact absurd ((Option.some.inj H).trans HRT.out) (by decide)
              · rw [if_neg c34] at H
                have c34b0 : (t591 == 4 && (t592 == 2)) = false := by simpa using c34
                (try (have c34b1 : decide (t591 = 4 && (t592 == 2)) = false := by simpa using c34))
                (try (have c34b2 : (t591 == 4 && (t592 == 2)) = false := by simpa using c34))
                (try (have c34b3 : ¬ (t591 = 4 && (t592 == 2)) := by simpa using c34))
                clear c34
                exact absurd ((Option.some.inj H).trans HRT.out) (by decide)
          · rw [if_neg c32] at H
            have c32b0 : (t579 == 5 && (t580 == 2)) = false := by simpa using c32
            (try (have c32b1 : decide (t579 = 5 && (t580 == 2)) = false := by simpa using c32))
            (try (have c32b2 : (t579 == 5 && (t580 == 2)) = false := by simpa using c32))
            (try (have c32b3 : ¬ (t579 = 5 && (t580 == 2)) := by simpa using c32))
            clear c32
            exact absurd ((Option.some.inj H).trans HRT.out) (by decide)
        · replace c31 := Bool.eq_false_iff.mpr c31
          subst c31
          have H1 : (some false) = some r := by rw [if_neg (show ¬ (false = true) by decide)] at H; exact H
          clear H
          have H := H1
          clear H1
          exact absurd ((Option.some.inj H).trans HRT.out) (by decide)

end Go.Proofs.Ytkmnogcahpbdjaa.PA
