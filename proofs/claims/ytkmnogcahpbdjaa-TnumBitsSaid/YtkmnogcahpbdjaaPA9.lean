-- PRINTED by print.py (a twelfth state) out of the translation. Not trusted: Lean checks it.
import Derived.Test.YtkmnogcahpbdjaaPA0
namespace Go.Proofs.Ytkmnogcahpbdjaa.PA
open Go.RowKit Go.Proofs.YtkmnogcahpbdjaaW.PrintWords Go.Proofs.YtkmnogcahpbdjaaW.PrintLast Go.Proofs.YtkmnogcahpbdjaaW.PrintMore
attribute [local go_sem] max2_int min2_int max_two min_two max_three min_three max_four min_four   -- for this text's walks alone
set_option linter.defProp false
def bN_9 := @blk_drewN
def bD_9 := @blk_drew
def bA_9 := @blk_alloc
def lA_9 := @below_alloc
def lN_9 := @pw_below_drewN
def lD_9 := @below_drew1
def lS_9 := @below_set
set_option linter.unusedVariables false
set_option linter.unusedSimpArgs false

/-! ### lockgateref03_In: function 29 -/
def lockgateref03_In.l0 : Nat → Int → Int → Int → Int → Option (Bool)
  | 0, _, _, _, _ => none
  | k + 1, x1, x5, x240000, x240001 => if x5 < 64 then (if 0 ≤ x5 then (if (Int.tmod (shr .u64 x240001 x5) 2) = 0 then (if (Int.tmod (shr .u64 x240000 x5) 2) = (Int.tmod (shr .u64 x1 x5) 2) then (lockgateref03_In.l0 k x1 (IntKind.u64.wrap (x5 + 1)) x240000 x240001) else (some false)) else (lockgateref03_In.l0 k x1 (IntKind.u64.wrap (x5 + 1)) x240000 x240001)) else (none)) else (some true)
def lockgateref03_In.f (k : Nat) (a0_0 : Int) (a0_1 : Int) (a1 : Int) : Option (Bool) := lockgateref03_In.l0 k a1 0 a0_0 a0_1
theorem lockgateref03_In.mono_l : ∀ k, (∀ y0 y1 y2 y3, LeO (lockgateref03_In.l0 k y0 y1 y2 y3) (lockgateref03_In.l0 (k + 1) y0 y1 y2 y3))
  | 0 => fun _ _ _ _ r h => by simp [lockgateref03_In.l0] at h
  | k + 1 => by
    have ih0 := lockgateref03_In.mono_l k
    · intro y0 y1 y2 y3
      unfold lockgateref03_In.l0
      repeat' first
      | (with_reducible exact ih0 _ _ _ _)
      | (with_reducible exact LeO.refl _)
      | (with_reducible exact LeO.none _)
      | (with_reducible refine LeO.ite ?_ ?_)
      | (with_reducible refine LeO.bind ?_ (fun _ => ?_))
      | exact ih0 _ _ _ _
      | exact LeO.none _
      | refine LeO.ite ?_ ?_
      | refine LeO.bind ?_ (fun _ => ?_)
theorem lockgateref03_In.mono : ∀ a0 a1 a2 k, LeO (lockgateref03_In.f k a0 a1 a2) (lockgateref03_In.f (k + 1) a0 a1 a2) := by
  intro a0 a1 a2 k
  have ih0 := lockgateref03_In.mono_l k
  unfold lockgateref03_In.f
  repeat' first
      | (with_reducible exact ih0 _ _ _ _)
      | (with_reducible exact LeO.refl _)
      | (with_reducible exact LeO.none _)
      | (with_reducible refine LeO.ite ?_ ?_)
      | (with_reducible refine LeO.bind ?_ (fun _ => ?_))
      | exact ih0 _ _ _ _
      | exact LeO.none _
      | refine LeO.ite ?_ ?_
      | refine LeO.bind ?_ (fun _ => ?_)
set_option maxHeartbeats 8000000 in
set_option maxRecDepth 100000 in
theorem lockgateref03_In.calls (k : Nat) (a0_0 : Int) (a0_1 : Int) (a1 : Int) (r : Bool) (w : World) (h : lockgateref03_In.f k a0_0 a0_1 a1 = some r) :
    Calls Try.prog 29 #[.agg #[.int .u64 a0_0, .int .u64 a0_1], .int .u64 a1] w fun e w' => e = .returned (.bool r) ∧ Below w.heap.size w w' := by
  have hu24 := Try.underlying24
  have HB := Aside0.mk (Below.refl w.heap.size w)
  have H : (lockgateref03_In.l0 k a1 0 a0_0 a0_1) = some r := h
  clear h
  have H' := Aside0.mk H
  clear H
  go_enter Try.func29, Try.ntmps29
  go_wp2_with (first | ((with_reducible refine gate_dst (N := 2) rfl ?_); refine box_event ?hg (N := 2) ?hd (cs := #[.int .u64 a0_0, .int .u64 a0_1]) (t := 24) ?hr ?_; (case hd => rfl); (case hg => rfl); (case hr => first | (go_simp; done) | (go_simp; rfl)); intro gb239 hg w3 hbox hb; have n0_ := Aside0.mk (below_step (by repeat (first | (with_reducible first | exact HB.out | apply lA_9 | apply lN_9 | apply lD_9) | exact HB.out)) hb); have n1_ := Aside0.mk (hbox); have n2_ := Aside0.mk ((by rw [hg]; exact (below_size (by repeat (first | (with_reducible first | exact HB.out | apply lA_9 | apply lN_9 | apply lD_9) | exact HB.out))) : w.heap.size ≤ gb239)); have n3_ := Aside0.mk ((by rw [hg]; exact (below_size (by repeat (first | (with_reducible first | exact HB.out | apply lA_9 | apply lN_9 | apply lD_9) | exact HB.out))) : w.heap.size ≤ gb239)); clear HB; have HB := n0_; have BK239 := n1_; have GW239 := n2_; have GE239 := n3_; clear n0_ n1_ n2_ n3_; clear hb hbox hg))
  go_loopg [5] k (fun kq v5 w' => ∃ (x5_1 : Int), v5 = .int .u64 x5_1 ∧ Aside0 (lockgateref03_In.l0 kq a1 x5_1 a0_0 a0_1 = some r) ∧ Aside0 (kq ≤ k) ∧ Aside0 (w'.heap[gb239]? = some (.cells #[.int .u64 a0_0, .int .u64 a0_1] 24 (0, 0))) ∧ Aside0 (Below w.heap.size w w'))
  case atStart => exact ⟨(0), (by first | rfl | (simp; done) | (simp [*]; done)), H', ⟨Nat.le_refl _⟩, ⟨by (with_reducible repeat (first | apply bN_9 | apply bD_9 | apply bA_9)); exact BK239.out⟩, ⟨by repeat (first | (with_reducible first | exact HB.out | apply lA_9 | apply lN_9 | apply lD_9 | refine lS_9 ?_ GE239.out) | exact HB.out)⟩⟩
  case round =>
    clear H'
    try clear c2
    try clear p2
    obtain ⟨x5_1, rfl, HA, HK1, BK239, HB⟩ := hrel
    cases gk with
    | zero => exact absurd HA.out (by simp [lockgateref03_In.l0])
    | succ k1 =>
      have H := HA.out
      clear HA
      simp only [lockgateref03_In.l0] at H
      by_cases c4 : x5_1 < 64
      · rw [if_pos c4] at H
        have c4b0 : decide (x5_1 < 64) = true := decide_eq_true c4
        clear c4
        by_cases c5 : 0 ≤ x5_1
        · rw [if_pos c5] at H
          have c5b0 := eq_true c5
          have c5b1 : decide (0 ≤ x5_1) = true := decide_eq_true c5
          clear c5
          obtain ⟨ji6, hji6⟩ : ∃ j_ : Int, (shr .u64 a0_1 x5_1) = j_ := ⟨_, rfl⟩
          replace H : (if (Int.tmod (ji6) 2) = 0 then (if (Int.tmod (shr .u64 a0_0 x5_1) 2) = (Int.tmod (shr .u64 a1 x5_1) 2) then (lockgateref03_In.l0 k1 a1 (IntKind.u64.wrap (x5_1 + 1)) a0_0 a0_1) else (some false)) else (lockgateref03_In.l0 k1 a1 (IntKind.u64.wrap (x5_1 + 1)) a0_0 a0_1)) = some r := by first | (rw [hji6] at H; exact H) | (simp only [hji6] at H ⊢; exact H)
          have hji6_ : (a0_1 / 2 ^ min x5_1.toNat 64) = ji6 := hji6
          have hji6z : x5_1 ≤ 64 → (a0_1 / 2 ^ x5_1.toNat) = ji6 := shr_small hji6
          by_cases c7 : (Int.tmod (ji6) 2) = 0
          · rw [if_pos c7] at H
            have c7b0 : ((Int.tmod (ji6) 2) == 0) = true := beq_iff_eq.mpr c7
            have c7b1 : ((Int.tmod (ji6) 2) != 0) = false := bne_eq_false_iff_eq.mpr c7
            clear c7
            have c8b0 := eq_true (of_decide_eq_true (by first | (with_reducible assumption) | assumption) : 0 ≤ x5_1)
            obtain ⟨ji9, hji9⟩ : ∃ j_ : Int, (shr .u64 a0_0 x5_1) = j_ := ⟨_, rfl⟩
            replace H : (if (Int.tmod (ji9) 2) = (Int.tmod (shr .u64 a1 x5_1) 2) then (lockgateref03_In.l0 k1 a1 (IntKind.u64.wrap (x5_1 + 1)) a0_0 a0_1) else (some false)) = some r := by first | (rw [hji9] at H; exact H) | (simp only [hji9] at H ⊢; exact H)
            have hji9_ : (a0_0 / 2 ^ min x5_1.toNat 64) = ji9 := hji9
            have hji9z : x5_1 ≤ 64 → (a0_0 / 2 ^ x5_1.toNat) = ji9 := shr_small hji9
            have c10b0 := eq_true (of_decide_eq_true (by first | (with_reducible assumption) | assumption) : 0 ≤ x5_1)
            obtain ⟨ji11, hji11⟩ : ∃ j_ : Int, (shr .u64 a1 x5_1) = j_ := ⟨_, rfl⟩
            replace H : (if (Int.tmod (ji9) 2) = (Int.tmod (ji11) 2) then (lockgateref03_In.l0 k1 a1 (IntKind.u64.wrap (x5_1 + 1)) a0_0 a0_1) else (some false)) = some r := by first | (rw [hji11] at H; exact H) | (simp only [hji11] at H ⊢; exact H)
            have hji11_ : (a1 / 2 ^ min x5_1.toNat 64) = ji11 := hji11
            have hji11z : x5_1 ≤ 64 → (a1 / 2 ^ x5_1.toNat) = ji11 := shr_small hji11
            by_cases c12 : (Int.tmod (ji9) 2) = (Int.tmod (ji11) 2)
            · rw [if_pos c12] at H
              have c12b0 : ((Int.tmod (ji9) 2) == (Int.tmod (ji11) 2)) = true := beq_iff_eq.mpr c12
              have c12b1 : ((Int.tmod (ji9) 2) != (Int.tmod (ji11) 2)) = false := bne_eq_false_iff_eq.mpr c12
              clear c12
              have H' := Aside0.mk H
              clear H
              have hcz13_0 : wr.cell? ⟨gb239, 0, none⟩ = some (.int .u64 a0_0) := (blk_cell BK239.out 0).trans rfl
              have hcz13_1 : wr.cell? ⟨gb239, 1, none⟩ = some (.int .u64 a0_1) := (blk_cell BK239.out 1).trans rfl
              have hfz13_0 := blk_frozen BK239.out 0
              have hfz13_1 := blk_frozen BK239.out 1
              go_wp2
              go_roundg k1
              case measure => have := HK1.out; omega
              case rel => exact ⟨(IntKind.u64.wrap (x5_1 + 1)), (by first | rfl | (simp; done) | (simp [*]; done)), H', ⟨by have := HK1.out; omega⟩, ⟨by (with_reducible repeat (first | apply bN_9 | apply bD_9 | apply bA_9)); exact BK239.out⟩, ⟨by repeat (first | (with_reducible first | exact HB.out | apply lA_9 | apply lN_9 | apply lD_9 | refine lS_9 ?_ GE239.out) | exact HB.out)⟩⟩
            · rw [if_neg c12] at H
              have c12b0 : ((Int.tmod (ji9) 2) == (Int.tmod (ji11) 2)) = false := beq_eq_false_iff_ne.mpr c12
              have c12b1 : ((Int.tmod (ji9) 2) != (Int.tmod (ji11) 2)) = true := bne_iff_ne.mpr c12
              obtain rfl := Option.some.inj H
              have hcz14_0 : wr.cell? ⟨gb239, 0, none⟩ = some (.int .u64 a0_0) := (blk_cell BK239.out 0).trans rfl
              have hcz14_1 : wr.cell? ⟨gb239, 1, none⟩ = some (.int .u64 a0_1) := (blk_cell BK239.out 1).trans rfl
              have hfz14_0 := blk_frozen BK239.out 0
              have hfz14_1 := blk_frozen BK239.out 1
              go_wp2
              go_ret
              exact ⟨by first | rfl | (simp [errW_none, errW_some] <;> rfl) | (simp only [← hji6, ← hji9, ← hji11]; first | rfl | (simp [errW_none, errW_some] <;> rfl)) | (simp [*, errW_none, errW_some] <;> rfl), by repeat (first | (with_reducible first | exact HB.out | apply lA_9 | apply lN_9 | apply lD_9 | refine lS_9 ?_ GE239.out) | exact HB.out)⟩
          · rw [if_neg c7] at H
            have c7b0 : ((Int.tmod (ji6) 2) == 0) = false := beq_eq_false_iff_ne.mpr c7
            have c7b1 : ((Int.tmod (ji6) 2) != 0) = true := bne_iff_ne.mpr c7
            have H' := Aside0.mk H
            clear H
            have hcz15_0 : wr.cell? ⟨gb239, 0, none⟩ = some (.int .u64 a0_0) := (blk_cell BK239.out 0).trans rfl
            have hcz15_1 : wr.cell? ⟨gb239, 1, none⟩ = some (.int .u64 a0_1) := (blk_cell BK239.out 1).trans rfl
            have hfz15_0 := blk_frozen BK239.out 0
            have hfz15_1 := blk_frozen BK239.out 1
            go_wp2
            go_roundg k1
            case measure => have := HK1.out; omega
            case rel => exact ⟨(IntKind.u64.wrap (x5_1 + 1)), (by first | rfl | (simp; done) | (simp [*]; done)), H', ⟨by have := HK1.out; omega⟩, ⟨by (with_reducible repeat (first | apply bN_9 | apply bD_9 | apply bA_9)); exact BK239.out⟩, ⟨by repeat (first | (with_reducible first | exact HB.out | apply lA_9 | apply lN_9 | apply lD_9 | refine lS_9 ?_ GE239.out) | exact HB.out)⟩⟩
        · rw [if_neg c5] at H
          exact absurd H (by simp)
      · rw [if_neg c4] at H
        have c4b0 : decide (x5_1 < 64) = false := decide_eq_false c4
        clear c4
        obtain rfl := Option.some.inj H
        go_wp2
        go_ret
        exact ⟨by first | rfl | (simp [errW_none, errW_some] <;> rfl) | (simp [*, errW_none, errW_some] <;> rfl), by repeat (first | (with_reducible first | exact HB.out | apply lA_9 | apply lN_9 | apply lD_9 | refine lS_9 ?_ GE239.out) | exact HB.out)⟩

/-! ### lockgateref03_Within: function 30 -/
def lockgateref03_Within.l0 : Nat → Int → Int → Int → Int → Int → Option (Bool)
  | 0, _, _, _, _, _ => none
  | k + 1, x5, x241000, x241001, x242000, x242001 => if x5 < 64 then (if 0 ≤ x5 then (if (Int.tmod (shr .u64 x242001 x5) 2) = 0 then (if (Int.tmod (shr .u64 x241001 x5) 2) = 1 then (some false) else (if (Int.tmod (shr .u64 x241000 x5) 2) = (Int.tmod (shr .u64 x242000 x5) 2) then (lockgateref03_Within.l0 k (IntKind.u64.wrap (x5 + 1)) x241000 x241001 x242000 x242001) else (some false))) else (lockgateref03_Within.l0 k (IntKind.u64.wrap (x5 + 1)) x241000 x241001 x242000 x242001)) else (none)) else (some true)
def lockgateref03_Within.f (k : Nat) (a0_0 : Int) (a0_1 : Int) (a1_0 : Int) (a1_1 : Int) : Option (Bool) := lockgateref03_Within.l0 k 0 a0_0 a0_1 a1_0 a1_1
theorem lockgateref03_Within.mono_l : ∀ k, (∀ y0 y1 y2 y3 y4, LeO (lockgateref03_Within.l0 k y0 y1 y2 y3 y4) (lockgateref03_Within.l0 (k + 1) y0 y1 y2 y3 y4))
  | 0 => fun _ _ _ _ _ r h => by simp [lockgateref03_Within.l0] at h
  | k + 1 => by
    have ih0 := lockgateref03_Within.mono_l k
    · intro y0 y1 y2 y3 y4
      unfold lockgateref03_Within.l0
      repeat' first
      | (with_reducible exact ih0 _ _ _ _ _)
      | (with_reducible exact LeO.refl _)
      | (with_reducible exact LeO.none _)
      | (with_reducible refine LeO.ite ?_ ?_)
      | (with_reducible refine LeO.bind ?_ (fun _ => ?_))
      | exact ih0 _ _ _ _ _
      | exact LeO.none _
      | refine LeO.ite ?_ ?_
      | refine LeO.bind ?_ (fun _ => ?_)
theorem lockgateref03_Within.mono : ∀ a0 a1 a2 a3 k, LeO (lockgateref03_Within.f k a0 a1 a2 a3) (lockgateref03_Within.f (k + 1) a0 a1 a2 a3) := by
  intro a0 a1 a2 a3 k
  have ih0 := lockgateref03_Within.mono_l k
  unfold lockgateref03_Within.f
  repeat' first
      | (with_reducible exact ih0 _ _ _ _ _)
      | (with_reducible exact LeO.refl _)
      | (with_reducible exact LeO.none _)
      | (with_reducible refine LeO.ite ?_ ?_)
      | (with_reducible refine LeO.bind ?_ (fun _ => ?_))
      | exact ih0 _ _ _ _ _
      | exact LeO.none _
      | refine LeO.ite ?_ ?_
      | refine LeO.bind ?_ (fun _ => ?_)
set_option maxHeartbeats 8000000 in
set_option maxRecDepth 100000 in
theorem lockgateref03_Within.calls (k : Nat) (a0_0 : Int) (a0_1 : Int) (a1_0 : Int) (a1_1 : Int) (r : Bool) (w : World) (h : lockgateref03_Within.f k a0_0 a0_1 a1_0 a1_1 = some r) :
    Calls Try.prog 30 #[.agg #[.int .u64 a0_0, .int .u64 a0_1], .agg #[.int .u64 a1_0, .int .u64 a1_1]] w fun e w' => e = .returned (.bool r) ∧ Below w.heap.size w w' := by
  have hu24 := Try.underlying24
  have HB := Aside0.mk (Below.refl w.heap.size w)
  have H : (lockgateref03_Within.l0 k 0 a0_0 a0_1 a1_0 a1_1) = some r := h
  clear h
  have H' := Aside0.mk H
  clear H
  go_enter Try.func30, Try.ntmps30
  go_wp2_with (first | ((with_reducible refine gate_dst (N := 2) rfl ?_); refine box_event ?hg (N := 2) ?hd (cs := #[.int .u64 a0_0, .int .u64 a0_1]) (t := 24) ?hr ?_; (case hd => rfl); (case hg => rfl); (case hr => first | (go_simp; done) | (go_simp; rfl)); intro gb240 hg w3 hbox hb; have n0_ := Aside0.mk (below_step (by repeat (first | (with_reducible first | exact HB.out | apply lA_9 | apply lN_9 | apply lD_9) | exact HB.out)) hb); have n1_ := Aside0.mk (hbox); have n2_ := Aside0.mk ((by rw [hg]; exact (below_size (by repeat (first | (with_reducible first | exact HB.out | apply lA_9 | apply lN_9 | apply lD_9) | exact HB.out))) : w.heap.size ≤ gb240)); have n3_ := Aside0.mk ((by rw [hg]; exact (below_size (by repeat (first | (with_reducible first | exact HB.out | apply lA_9 | apply lN_9 | apply lD_9) | exact HB.out))) : w.heap.size ≤ gb240)); clear HB; have HB := n0_; have BK240 := n1_; have GW240 := n2_; have GE240 := n3_; clear n0_ n1_ n2_ n3_; clear hb hbox hg) | ((with_reducible refine gate_dst (N := 3) rfl ?_); refine box_event ?hg (N := 3) ?hd (cs := #[.int .u64 a1_0, .int .u64 a1_1]) (t := 24) ?hr ?_; (case hd => rfl); (case hg => rfl); (case hr => first | (go_simp; done) | (go_simp; rfl)); intro gb241 hg w4 hbox hb; have n0_ := Aside0.mk (blk_below (g := gb240) (o := .cells #[.int .u64 a0_0, .int .u64 a0_1] 24 (0, 0)) (by (with_reducible repeat (first | apply bN_9 | apply bD_9 | apply bA_9)); exact BK240.out) hb); have n1_ := Aside0.mk (below_step (by repeat (first | (with_reducible first | exact HB.out | apply lA_9 | apply lN_9 | apply lD_9 | refine lS_9 ?_ GE240.out) | exact HB.out)) hb); have n2_ := Aside0.mk (hbox); have n3_ := Aside0.mk ((by rw [hg]; exact (below_size (by repeat (first | (with_reducible first | exact HB.out | apply lA_9 | apply lN_9 | apply lD_9 | refine lS_9 ?_ GE240.out) | exact HB.out))) : w.heap.size ≤ gb241)); have n4_ := Aside0.mk ((by rw [hg]; exact (below_size (by repeat (first | (with_reducible first | exact HB.out | apply lA_9 | apply lN_9 | apply lD_9 | refine lS_9 ?_ GE240.out) | exact HB.out))) : w.heap.size ≤ gb241)); have n5_ := Aside0.mk ((by rw [hg]; exact Nat.ne_of_lt (blk_lt (g := gb240) (o := .cells #[.int .u64 a0_0, .int .u64 a0_1] 24 (0, 0)) (by (with_reducible repeat (first | apply bN_9 | apply bD_9 | apply bA_9)); exact BK240.out)) : gb240 ≠ gb241)); have n6_ := Aside0.mk ((by rw [hg]; exact Nat.ne_of_gt (blk_lt (g := gb240) (o := .cells #[.int .u64 a0_0, .int .u64 a0_1] 24 (0, 0)) (by (with_reducible repeat (first | apply bN_9 | apply bD_9 | apply bA_9)); exact BK240.out)) : gb241 ≠ gb240)); clear BK240; clear HB; have BK240 := n0_; have HB := n1_; have BK241 := n2_; have GW241 := n3_; have GE241 := n4_; have NB240_241 := n5_; have NB241_240 := n6_; clear n0_ n1_ n2_ n3_ n4_ n5_ n6_; clear hb hbox hg))
  go_loopg [5] k (fun kq v5 w' => ∃ (x5_1 : Int), v5 = .int .u64 x5_1 ∧ Aside0 (lockgateref03_Within.l0 kq x5_1 a0_0 a0_1 a1_0 a1_1 = some r) ∧ Aside0 (kq ≤ k) ∧ Aside0 (w'.heap[gb240]? = some (.cells #[.int .u64 a0_0, .int .u64 a0_1] 24 (0, 0))) ∧ Aside0 (w'.heap[gb241]? = some (.cells #[.int .u64 a1_0, .int .u64 a1_1] 24 (0, 0))) ∧ Aside0 (Below w.heap.size w w'))
  case atStart => exact ⟨(0), (by first | rfl | (simp; done) | (simp [*]; done)), H', ⟨Nat.le_refl _⟩, ⟨by (with_reducible repeat (first | apply bN_9 | apply bD_9 | apply bA_9)); exact BK240.out⟩, ⟨by (with_reducible repeat (first | apply bN_9 | apply bD_9 | apply bA_9)); exact BK241.out⟩, ⟨by repeat (first | (with_reducible first | exact HB.out | apply lA_9 | apply lN_9 | apply lD_9 | refine lS_9 ?_ GE240.out | refine lS_9 ?_ GE241.out) | exact HB.out)⟩⟩
  case round =>
    clear H'
    try clear p2
    try clear c3
    obtain ⟨x5_1, rfl, HA, HK1, BK240, BK241, HB⟩ := hrel
    cases gk with
    | zero => exact absurd HA.out (by simp [lockgateref03_Within.l0])
    | succ k1 =>
      have H := HA.out
      clear HA
      simp only [lockgateref03_Within.l0] at H
      by_cases c5 : x5_1 < 64
      · rw [if_pos c5] at H
        have c5b0 : decide (x5_1 < 64) = true := decide_eq_true c5
        clear c5
        by_cases c6 : 0 ≤ x5_1
        · rw [if_pos c6] at H
          have c6b0 := eq_true c6
          have c6b1 : decide (0 ≤ x5_1) = true := decide_eq_true c6
          clear c6
          obtain ⟨ji7, hji7⟩ : ∃ j_ : Int, (shr .u64 a1_1 x5_1) = j_ := ⟨_, rfl⟩
          replace H : (if (Int.tmod (ji7) 2) = 0 then (if (Int.tmod (shr .u64 a0_1 x5_1) 2) = 1 then (some false) else (if (Int.tmod (shr .u64 a0_0 x5_1) 2) = (Int.tmod (shr .u64 a1_0 x5_1) 2) then (lockgateref03_Within.l0 k1 (IntKind.u64.wrap (x5_1 + 1)) a0_0 a0_1 a1_0 a1_1) else (some false))) else (lockgateref03_Within.l0 k1 (IntKind.u64.wrap (x5_1 + 1)) a0_0 a0_1 a1_0 a1_1)) = some r := by first | (rw [hji7] at H; exact H) | (simp only [hji7] at H ⊢; exact H)
          have hji7_ : (a1_1 / 2 ^ min x5_1.toNat 64) = ji7 := hji7
          have hji7z : x5_1 ≤ 64 → (a1_1 / 2 ^ x5_1.toNat) = ji7 := shr_small hji7
          by_cases c8 : (Int.tmod (ji7) 2) = 0
          · rw [if_pos c8] at H
            have c8b0 : ((Int.tmod (ji7) 2) == 0) = true := beq_iff_eq.mpr c8
            have c8b1 : ((Int.tmod (ji7) 2) != 0) = false := bne_eq_false_iff_eq.mpr c8
            clear c8
            have c9b0 := eq_true (of_decide_eq_true (by first | (with_reducible assumption) | assumption) : 0 ≤ x5_1)
            obtain ⟨ji10, hji10⟩ : ∃ j_ : Int, (shr .u64 a0_1 x5_1) = j_ := ⟨_, rfl⟩
            replace H : (if (Int.tmod (ji10) 2) = 1 then (some false) else (if (Int.tmod (shr .u64 a0_0 x5_1) 2) = (Int.tmod (shr .u64 a1_0 x5_1) 2) then (lockgateref03_Within.l0 k1 (IntKind.u64.wrap (x5_1 + 1)) a0_0 a0_1 a1_0 a1_1) else (some false))) = some r := by first | (rw [hji10] at H; exact H) | (simp only [hji10] at H ⊢; exact H)
            have hji10_ : (a0_1 / 2 ^ min x5_1.toNat 64) = ji10 := hji10
            have hji10z : x5_1 ≤ 64 → (a0_1 / 2 ^ x5_1.toNat) = ji10 := shr_small hji10
            by_cases c11 : (Int.tmod (ji10) 2) = 1
            · rw [if_pos c11] at H
              have c11b0 : ((Int.tmod (ji10) 2) == 1) = true := beq_iff_eq.mpr c11
              have c11b1 : ((Int.tmod (ji10) 2) != 1) = false := bne_eq_false_iff_eq.mpr c11
              clear c11
              obtain rfl := Option.some.inj H
              have hnb12 := NB241_240.out
              have hnc12 := NB240_241.out
              have hcz13_0 : wr.cell? ⟨gb241, 0, none⟩ = some (.int .u64 a1_0) := (blk_cell BK241.out 0).trans rfl
              have hcz13_1 : wr.cell? ⟨gb241, 1, none⟩ = some (.int .u64 a1_1) := (blk_cell BK241.out 1).trans rfl
              have hfz13_0 := blk_frozen BK241.out 0
              have hfz13_1 := blk_frozen BK241.out 1
              have hcz14_0 : wr.cell? ⟨gb240, 0, none⟩ = some (.int .u64 a0_0) := (blk_cell BK240.out 0).trans rfl
              have hcz14_1 : wr.cell? ⟨gb240, 1, none⟩ = some (.int .u64 a0_1) := (blk_cell BK240.out 1).trans rfl
              have hfz14_0 := blk_frozen BK240.out 0
              have hfz14_1 := blk_frozen BK240.out 1
              go_wp2
              go_ret
              exact ⟨by first | rfl | (simp [errW_none, errW_some] <;> rfl) | (simp only [← hji7, ← hji10]; first | rfl | (simp [errW_none, errW_some] <;> rfl)) | (simp [*, errW_none, errW_some] <;> rfl), by repeat (first | (with_reducible first | exact HB.out | apply lA_9 | apply lN_9 | apply lD_9 | refine lS_9 ?_ GE240.out | refine lS_9 ?_ GE241.out) | exact HB.out)⟩
            · rw [if_neg c11] at H
              have c11b0 : ((Int.tmod (ji10) 2) == 1) = false := beq_eq_false_iff_ne.mpr c11
              have c11b1 : ((Int.tmod (ji10) 2) != 1) = true := bne_iff_ne.mpr c11
              have c15b0 := eq_true (of_decide_eq_true (by first | (with_reducible assumption) | assumption) : 0 ≤ x5_1)
              obtain ⟨ji16, hji16⟩ : ∃ j_ : Int, (shr .u64 a0_0 x5_1) = j_ := ⟨_, rfl⟩
              replace H : (if (Int.tmod (ji16) 2) = (Int.tmod (shr .u64 a1_0 x5_1) 2) then (lockgateref03_Within.l0 k1 (IntKind.u64.wrap (x5_1 + 1)) a0_0 a0_1 a1_0 a1_1) else (some false)) = some r := by first | (rw [hji16] at H; exact H) | (simp only [hji16] at H ⊢; exact H)
              have hji16_ : (a0_0 / 2 ^ min x5_1.toNat 64) = ji16 := hji16
              have hji16z : x5_1 ≤ 64 → (a0_0 / 2 ^ x5_1.toNat) = ji16 := shr_small hji16
              have c17b0 := eq_true (of_decide_eq_true (by first | (with_reducible assumption) | assumption) : 0 ≤ x5_1)
              obtain ⟨ji18, hji18⟩ : ∃ j_ : Int, (shr .u64 a1_0 x5_1) = j_ := ⟨_, rfl⟩
              replace H : (if (Int.tmod (ji16) 2) = (Int.tmod (ji18) 2) then (lockgateref03_Within.l0 k1 (IntKind.u64.wrap (x5_1 + 1)) a0_0 a0_1 a1_0 a1_1) else (some false)) = some r := by first | (rw [hji18] at H; exact H) | (simp only [hji18] at H ⊢; exact H)
              have hji18_ : (a1_0 / 2 ^ min x5_1.toNat 64) = ji18 := hji18
              have hji18z : x5_1 ≤ 64 → (a1_0 / 2 ^ x5_1.toNat) = ji18 := shr_small hji18
              by_cases c19 : (Int.tmod (ji16) 2) = (Int.tmod (ji18) 2)
              · rw [if_pos c19] at H
                have c19b0 : ((Int.tmod (ji16) 2) == (Int.tmod (ji18) 2)) = true := beq_iff_eq.mpr c19
                have c19b1 : ((Int.tmod (ji16) 2) != (Int.tmod (ji18) 2)) = false := bne_eq_false_iff_eq.mpr c19
                clear c19
                have H' := Aside0.mk H
                clear H
                have hnb20 := NB241_240.out
                have hnc20 := NB240_241.out
                have hcz21_0 : wr.cell? ⟨gb241, 0, none⟩ = some (.int .u64 a1_0) := (blk_cell BK241.out 0).trans rfl
                have hcz21_1 : wr.cell? ⟨gb241, 1, none⟩ = some (.int .u64 a1_1) := (blk_cell BK241.out 1).trans rfl
                have hfz21_0 := blk_frozen BK241.out 0
                have hfz21_1 := blk_frozen BK241.out 1
                have hcz22_0 : wr.cell? ⟨gb240, 0, none⟩ = some (.int .u64 a0_0) := (blk_cell BK240.out 0).trans rfl
                have hcz22_1 : wr.cell? ⟨gb240, 1, none⟩ = some (.int .u64 a0_1) := (blk_cell BK240.out 1).trans rfl
                have hfz22_0 := blk_frozen BK240.out 0
                have hfz22_1 := blk_frozen BK240.out 1
                go_wp2
                go_roundg k1
                case measure => have := HK1.out; omega
                case rel => exact ⟨(IntKind.u64.wrap (x5_1 + 1)), (by first | rfl | (simp; done) | (simp [*]; done)), H', ⟨by have := HK1.out; omega⟩, ⟨by (with_reducible repeat (first | apply bN_9 | apply bD_9 | apply bA_9)); exact BK240.out⟩, ⟨by (with_reducible repeat (first | apply bN_9 | apply bD_9 | apply bA_9)); exact BK241.out⟩, ⟨by repeat (first | (with_reducible first | exact HB.out | apply lA_9 | apply lN_9 | apply lD_9 | refine lS_9 ?_ GE240.out | refine lS_9 ?_ GE241.out) | exact HB.out)⟩⟩
              · rw [if_neg c19] at H
                have c19b0 : ((Int.tmod (ji16) 2) == (Int.tmod (ji18) 2)) = false := beq_eq_false_iff_ne.mpr c19
                have c19b1 : ((Int.tmod (ji16) 2) != (Int.tmod (ji18) 2)) = true := bne_iff_ne.mpr c19
                obtain rfl := Option.some.inj H
                have hnb23 := NB241_240.out
                have hnc23 := NB240_241.out
                have hcz24_0 : wr.cell? ⟨gb241, 0, none⟩ = some (.int .u64 a1_0) := (blk_cell BK241.out 0).trans rfl
                have hcz24_1 : wr.cell? ⟨gb241, 1, none⟩ = some (.int .u64 a1_1) := (blk_cell BK241.out 1).trans rfl
                have hfz24_0 := blk_frozen BK241.out 0
                have hfz24_1 := blk_frozen BK241.out 1
                have hcz25_0 : wr.cell? ⟨gb240, 0, none⟩ = some (.int .u64 a0_0) := (blk_cell BK240.out 0).trans rfl
                have hcz25_1 : wr.cell? ⟨gb240, 1, none⟩ = some (.int .u64 a0_1) := (blk_cell BK240.out 1).trans rfl
                have hfz25_0 := blk_frozen BK240.out 0
                have hfz25_1 := blk_frozen BK240.out 1
                go_wp2
                go_ret
                exact ⟨by first | rfl | (simp [errW_none, errW_some] <;> rfl) | (simp only [← hji7, ← hji10, ← hji16, ← hji18]; first | rfl | (simp [errW_none, errW_some] <;> rfl)) | (simp [*, errW_none, errW_some] <;> rfl), by repeat (first | (with_reducible first | exact HB.out | apply lA_9 | apply lN_9 | apply lD_9 | refine lS_9 ?_ GE240.out | refine lS_9 ?_ GE241.out) | exact HB.out)⟩
          · rw [if_neg c8] at H
            have c8b0 : ((Int.tmod (ji7) 2) == 0) = false := beq_eq_false_iff_ne.mpr c8
            have c8b1 : ((Int.tmod (ji7) 2) != 0) = true := bne_iff_ne.mpr c8
            have H' := Aside0.mk H
            clear H
            have hnb26 := NB241_240.out
            have hnc26 := NB240_241.out
            have hcz27_0 : wr.cell? ⟨gb241, 0, none⟩ = some (.int .u64 a1_0) := (blk_cell BK241.out 0).trans rfl
            have hcz27_1 : wr.cell? ⟨gb241, 1, none⟩ = some (.int .u64 a1_1) := (blk_cell BK241.out 1).trans rfl
            have hfz27_0 := blk_frozen BK241.out 0
            have hfz27_1 := blk_frozen BK241.out 1
            go_wp2
            go_roundg k1
            case measure => have := HK1.out; omega
            case rel => exact ⟨(IntKind.u64.wrap (x5_1 + 1)), (by first | rfl | (simp; done) | (simp [*]; done)), H', ⟨by have := HK1.out; omega⟩, ⟨by (with_reducible repeat (first | apply bN_9 | apply bD_9 | apply bA_9)); exact BK240.out⟩, ⟨by (with_reducible repeat (first | apply bN_9 | apply bD_9 | apply bA_9)); exact BK241.out⟩, ⟨by repeat (first | (with_reducible first | exact HB.out | apply lA_9 | apply lN_9 | apply lD_9 | refine lS_9 ?_ GE240.out | refine lS_9 ?_ GE241.out) | exact HB.out)⟩⟩
        · rw [if_neg c6] at H
          exact absurd H (by simp)
      · rw [if_neg c5] at H
        have c5b0 : decide (x5_1 < 64) = false := decide_eq_false c5
        clear c5
        obtain rfl := Option.some.inj H
        go_wp2
        go_ret
        exact ⟨by first | rfl | (simp [errW_none, errW_some] <;> rfl) | (simp [*, errW_none, errW_some] <;> rfl), by repeat (first | (with_reducible first | exact HB.out | apply lA_9 | apply lN_9 | apply lD_9 | refine lS_9 ?_ GE240.out | refine lS_9 ?_ GE241.out) | exact HB.out)⟩

end Go.Proofs.Ytkmnogcahpbdjaa.PA
