import Derived.Test.YticijjonimiooaaWTab
import Derived.Test.YticijjonimiooaaPA0
import Derived.Test.YticijjonimiooaaSq
import Derived.Test.YticijjonimiooaaPA2
import Derived.Test.YticijjonimiooaaPA8
namespace Go.Proofs.Yticijjonimiooaa.PA
open Go.RowKit Go.Proofs.YticijjonimiooaaW.PrintWords Go.Proofs.YticijjonimiooaaW.PrintLast Go.Proofs.YticijjonimiooaaW.PrintMore
attribute [local go_sem] max2_int min2_int max_two min_two max_three min_three max_four min_four
set_option linter.unusedVariables false
set_option linter.unusedSimpArgs false
def insn_Get.l0 : Nat → List Int → List (S40) → Option ((List (S40)) × Int)
 | 0, _, _ => none
 | k + 1, x0, x4 => if (x0.length : Int) > 0 then (if (x4.length : Int) = 256 then (some (([] : List (S40)), 9)) else ((insn_first.f k x0).bind fun bt170 => (if bt170.2.2.2.2.2.2 = 0 then (if x4.length < 3518437208883 then (if 0 ≤ bt170.2.2.2.2.2.1 then (if bt170.2.2.2.2.2.1 ≤ (x0.length : Int) then (insn_Get.l0 k (x0.drop (bt170.2.2.2.2.2.1 : Int).toNat) (x4 ++ [(⟨bt170.1, bt170.2.1, bt170.2.2.1, bt170.2.2.2.1, bt170.2.2.2.2.1⟩ : S40)])) else (none)) else (none)) else (none)) else (some (([] : List (S40)), bt170.2.2.2.2.2.2))))) else (some (x4, 0))
def insn_Get.f (k : Nat) (l0 : List Int) : Option ((List (S40)) × Int) := insn_Get.l0 k l0 ([] : List (S40))
theorem insn_Get.mono_l : ∀ k, (∀ y0 y1, LeO (insn_Get.l0 k y0 y1) (insn_Get.l0 (k + 1) y0 y1))
 | 0 => fun _ _ r h => by simp [insn_Get.l0] at h
 | k + 1 => by
  have ih0 := insn_Get.mono_l k
  intro y0 y1
  unfold insn_Get.l0
  repeat' first
  | (with_reducible exact ih0 _ _)
  | (with_reducible exact insn_first.mono _ _)
  | (with_reducible exact LeO.refl _)
  | (with_reducible exact LeO.none _)
  | (with_reducible refine LeO.ite ?_ ?_)
  | (with_reducible refine LeO.bind ?_ (fun _ => ?_))
  | exact ih0 _ _
  | exact insn_first.mono _ _
  | exact LeO.none _
  | refine LeO.ite ?_ ?_
  | refine LeO.bind ?_ (fun _ => ?_)
theorem insn_Get.mono : ∀ a0 k, LeO (insn_Get.f k a0) (insn_Get.f (k + 1) a0) := by
 intro a0 k
 have ih0 := insn_Get.mono_l k
 unfold insn_Get.f
 repeat' first
  | (with_reducible exact ih0 _ _)
  | (with_reducible exact insn_first.mono _ _)
  | (with_reducible exact LeO.refl _)
  | (with_reducible exact LeO.none _)
  | (with_reducible refine LeO.ite ?_ ?_)
  | (with_reducible refine LeO.bind ?_ (fun _ => ?_))
  | exact ih0 _ _
  | exact insn_first.mono _ _
  | exact LeO.none _
  | refine LeO.ite ?_ ?_
  | refine LeO.bind ?_ (fun _ => ?_)
def insn_Get.T8 : Bool × List (List Nat × List Nat) := (true, [([], []), ([], []), ([1], [1]), ([0, 2], [0, 2]), ([], []), ([], []), ([4, 5], [4, 5]), ([3, 3, 0, 1, 2, 3], [0, 3]), ([6, 7, 0, 1, 2, 3, 4, 5, 6, 7], [4, 6])])
def insn_Get.B8 : List Nat := [0, 0, 2, 7, 0, 0, 48, 15, 255]
theorem insn_Get.tab8 : rtab .any (opsOf Try.f19 8) = insn_Get.T8 := by kernel_rfl
theorem insn_Get.bits8 : waitsOk insn_Get.T8.2 insn_Get.B8 = true := by kernel_rfl
set_option maxHeartbeats 8000000 in
set_option maxRecDepth 100000 in
theorem insn_Get.calls (k : Nat) (P0_ : Nat → Prop) (A0 : Option Addr) (c0 : Nat) (l0 : List Int) (r1 : List (S40)) (r2 : Int) (w : World) (hs0 : Kd.V (Kd.int .u8) 5 w w.heap.size (fun k_ => P0_ k_) (.slice A0 l0.length c0) l0) (h : insn_Get.f k l0 = some (r1, r2)) :
 Calls Try.prog 19 #[.slice A0 l0.length c0] w fun e w' => ∃ v0_ : Value, e = .returned (.tuple #[v0_, .int .i64 r2]) ∧ Kd.R k40 40 w' w.heap.size (fun k_ => (w.heap.size ≤ k_)) v0_ r1 ∧ Below w.heap.size w w' := by
 have hu40 := Try.underlying40
 have HO0 := Aside0.mk (show Kd.V (Kd.int .u8) 5 w w.heap.size (fun k_ => (P0_ k_ ∨ w.heap.size ≤ k_)) (.slice A0 l0.length c0) l0 from Kd.V_mono hs0 (fun k_ hk => .inl hk))
 have HB := Aside0.mk (Below.refl w.heap.size w)
 have H : (insn_Get.l0 k l0 ([] : List (S40))) = some (r1, r2) := h
 clear h
 have H' := Aside0.mk H
 clear H
 go_enter Try.func19, Try.ntmps19
 go_wp2
 go_loopg [0, 4] k (fun kq v0 v4 w' => ∃ (x0_1 : List Int) (x4_1 : List (S40)), Aside0 (insn_Get.l0 kq x0_1 x4_1 = some (r1, r2)) ∧ Aside0 (kq ≤ k) ∧ Aside0 (Kd.V (Kd.int .u8) 5 w' w.heap.size (fun k_ => (P0_ k_ ∨ w.heap.size ≤ k_) ∧ some k_ ≠ (v4 : Value).ownBlock) v0 x0_1) ∧ Aside0 (Kd.R k40 40 w' w.heap.size (fun k_ => (w.heap.size ≤ k_)) v4 x4_1) ∧ Aside0 (Below w.heap.size w w'))
 case atStart => exact ⟨(l0), (([] : List (S40))), H', ⟨Nat.le_refl _⟩, ⟨by (with_reducible repeat (first | apply Kd.V_alloc | apply Kd.V_drewN | apply Kd.V_drew)); exact Kd.V_mono HO0.out (fun _ hk => ⟨hk, (by simp [Value.ownBlock])⟩)⟩, ⟨by first | exact Kd.R_nil _ _ _ _ _ | exact Kd.N_nil _ _ _ _ _ | exact Kd.V_nil _ _ _ _ _ | exact Kd.Q_nil _ _ _ _ _ | exact Kd.S_nil _ _ _ _ _⟩, ⟨bz_⟩⟩
 case round =>
  clear H'
  try clear c1
  obtain ⟨x0_1, x4_1, HA, HK1, HO_0, HO_4, HB⟩ := hrel
  cases gk with
  | zero => exact absurd HA.out (by simp [insn_Get.l0])
  | succ k1 =>
   have H := HA.out
   clear HA
   simp only [insn_Get.l0] at H
   by_cases c2 : (x0_1.length : Int) > 0
   rotate_left
   ·rw [if_neg c2] at H
    have c2b0 : decide (0 < (x0_1.length : Int)) = false := decide_eq_false c2
    have c2b1 : decide (0 < x0_1.length) = false := decide_eq_false (by omega)
    clear c2
    simp only [Option.some.injEq, Prod.mk.injEq] at H
    obtain ⟨rfl, rfl⟩ := H
    obtain ⟨Ao25, co25, eo25⟩ := Kd.V_slice HO_0.out
    subst eo25
    go_wp2
    go_ret2
    exact ⟨_, by first | rfl | (simp [errW_none, errW_some] <;> rfl) | (simp [*, errW_none, errW_some] <;> rfl), by (with_reducible repeat (first | apply Kd.R_alloc | apply Kd.R_drewN | apply Kd.R_drew)); exact HO_4.out, bz_⟩
   rw [if_pos c2] at H
   have c2b0 : decide (0 < (x0_1.length : Int)) = true := decide_eq_true c2
   have c2b1 : decide (0 < x0_1.length) = true := decide_eq_true (by omega)
   clear c2
   by_cases c3 : (x4_1.length : Int) = 256
   ·rw [if_pos c3] at H
    have c3b0 : ((x4_1.length : Int) == 256) = true := beq_iff_eq.mpr c3
    have c3b1 : ((x4_1.length : Int) != 256) = false := bne_eq_false_iff_eq.mpr c3
    clear c3
    simp only [Option.some.injEq, Prod.mk.injEq] at H
    obtain ⟨rfl, rfl⟩ := H
    obtain ⟨Ao4, co4, eo4⟩ := Kd.V_slice HO_0.out
    subst eo4
    obtain ⟨Ao5, co5, eo5⟩ := Kd.R_slice HO_4.out
    subst eo5
    go_wp2
    go_ret2
    exact ⟨_, by first | rfl | (simp [errW_none, errW_some] <;> rfl) | (simp [*, errW_none, errW_some] <;> rfl), by first | exact Kd.R_nil _ _ _ _ _ | exact Kd.N_nil _ _ _ _ _ | exact Kd.V_nil _ _ _ _ _ | exact Kd.Q_nil _ _ _ _ _ | exact Kd.S_nil _ _ _ _ _, bz_⟩
   rw [if_neg c3] at H
   have c3b0 : ((x4_1.length : Int) == 256) = false := beq_eq_false_iff_ne.mpr c3
   have c3b1 : ((x4_1.length : Int) != 256) = true := bne_iff_ne.mpr c3
   replace H := Option.bind_eq_some_iff.mp H
   obtain ⟨⟨t170, t171, t172, t173, t174, t175, t176⟩, A60, H⟩ := H
   (try dsimp only at H)
   have A6 := Aside0.mk A60
   clear A60
   by_cases c7 : t176 = 0
   rotate_left
   ·rw [if_neg c7] at H
    have c7b0 : (t176 == 0) = false := beq_eq_false_iff_ne.mpr c7
    have c7b1 : (t176 != 0) = true := bne_iff_ne.mpr c7
    simp only [Option.some.injEq, Prod.mk.injEq] at H
    obtain ⟨rfl, rfl⟩ := H
    obtain ⟨Ao20, co20, eo20⟩ := Kd.V_slice HO_0.out
    subst eo20
    obtain ⟨Ao21, co21, eo21⟩ := Kd.R_slice HO_4.out
    subst eo21
    go_wp2_with (first | ((with_reducible refine gate_callee (f := 37) rfl ?_); refine goesL_ (some 16) rfl rfl Try.func37 (by kernel_rfl) rfl #[.slice Ao20 x0_1.length co20] rfl (by (try simp only [List.map_toArray, List.map_cons, List.map_nil]); first | done | rfl | (simp only [List.length_drop, List.length_take]; rfl)) ?_; (with_reducible refine (insn_first.calls k1 _ _ x0_1 t170 t171 t172 t173 t174 t175 t176 _ ?side1 ?side2 A6.out).mono ?_); (case side1 => exact ca_ ((Kd.V_reads' HO_0.out).2.2)); (case side2 => exact (Kd.V_reads' HO_0.out).2.1); rintro e w22 ⟨rfl, hb⟩; refine ⟨_, rfl, ?_⟩; replace HO_0 := Aside0.mk (Kd.V_below (by (with_reducible repeat (first | apply Kd.V_alloc | apply Kd.V_drewN | apply Kd.V_drew)); exact HO_0.out) hb); replace HO_4 := Aside0.mk (Kd.R_below (ra_ HO_4.out) hb); replace HB := bl_ hb; (try clear hb); (try clear hk); ) | ((with_reducible refine gate_dst (N := 5) rfl ?_); refine bx_ 5 #[.int .i64 0, .int .i64 0, .int .i64 0, .int .i64 0, .int .i64 0] 40 ?_; intro gb177 hg w23 BK177 hb; have GW177 := bg_ hg; have GE177 := GW177; replace HO_0 := Aside0.mk (Kd.V_below (Kd.V_elderB (by (with_reducible repeat (first | apply Kd.V_alloc | apply Kd.V_drewN | apply Kd.V_drew)); exact HO_0.out) gb177 (Nat.le_of_eq hg.symm)) hb); replace HO_4 := Aside0.mk (Kd.R_below (Kd.R_elderB (ra_ HO_4.out) gb177 (Nat.le_of_eq hg.symm)) hb); replace HB := bl_ hb; clear hb hg; obtain ⟨zc24_0, zc24_1, zc24_2, zc24_3, zc24_4, zf24_0, zf24_1, zf24_2, zf24_3, zf24_4⟩ := k5_ BK177))
    go_ret2
    exact ⟨_, by first | rfl | (simp [errW_none, errW_some] <;> rfl) | (simp [*, errW_none, errW_some] <;> rfl), by first | exact Kd.R_nil _ _ _ _ _ | exact Kd.N_nil _ _ _ _ _ | exact Kd.V_nil _ _ _ _ _ | exact Kd.Q_nil _ _ _ _ _ | exact Kd.S_nil _ _ _ _ _, bz_⟩
   rw [if_pos c7] at H
   have c7b0 : (t176 == 0) = true := beq_iff_eq.mpr c7
   have c7b1 : (t176 != 0) = false := bne_eq_false_iff_eq.mpr c7
   clear c7
   by_cases c8 : x4_1.length < 3518437208883
   rotate_left
   ·rw [if_neg c8] at H
    exact absurd H (by simp)
   rw [if_pos c8] at H
   have LMc8 := Aside0.mk c8
   clear c8
   obtain ⟨y178, hy178⟩ : ∃ Y : List (S40), Y = (x4_1 ++ [(⟨t170, t171, t172, t173, t174⟩ : S40)]) := ⟨_, rfl⟩
   replace H : (if 0 ≤ t175 then (if t175 ≤ (x0_1.length : Int) then (insn_Get.l0 k1 (x0_1.drop (t175 : Int).toNat) y178) else (none)) else (none)) = some (r1, r2) := by first | (rw [hy178]; with_reducible exact H) | (have H2_ := (Option.bind_some _ _).symm.trans H; rw [hy178]; with_reducible exact H2_) | (have H2_ := (Option.bind_some _ _).symm.trans H; with_reducible exact H2_) | with_reducible exact H | (rw [hy178]; exact H) | exact H
   have Ny178 := Aside0.mk hy178
   clear hy178
   by_cases c9 : 0 ≤ t175
   rotate_left
   ·rw [if_neg c9] at H
    exact absurd H (by simp)
   rw [if_pos c9] at H
   have c9b0 := eq_true c9
   have c9b1 : decide (0 ≤ t175) = true := decide_eq_true c9
   clear c9
   by_cases c10 : t175 ≤ (x0_1.length : Int)
   rotate_left
   ·rw [if_neg c10] at H
    exact absurd H (by simp)
   rw [if_pos c10] at H
   have c10b0 := eq_true c10
   have c10b1 : decide (t175 ≤ (x0_1.length : Int)) = true := decide_eq_true c10
   clear c10
   obtain ⟨y181, hy181⟩ : ∃ Y : List Int, Y = (x0_1.drop (t175 : Int).toNat) := ⟨_, rfl⟩
   replace H : (insn_Get.l0 k1 y181 y178) = some (r1, r2) := by first | (rw [hy181]; with_reducible exact H) | (have H2_ := (Option.bind_some _ _).symm.trans H; rw [hy181]; with_reducible exact H2_) | (have H2_ := (Option.bind_some _ _).symm.trans H; with_reducible exact H2_) | with_reducible exact H | (rw [hy181]; exact H) | exact H
   have Ny181 := Aside0.mk hy181
   clear hy181
   have H' := Aside0.mk H
   clear H
   obtain ⟨Ao11, co11, eo11⟩ := Kd.V_slice HO_0.out
   subst eo11
   obtain ⟨Ao12, co12, eo12⟩ := Kd.R_slice HO_4.out
   subst eo12
   try go_wp2_with (first | ((with_reducible refine gate_callee (f := 37) rfl ?_); refine goesL_ (some 16) rfl rfl Try.func37 (by kernel_rfl) rfl #[.slice Ao11 x0_1.length co11] rfl (by (try simp only [List.map_toArray, List.map_cons, List.map_nil]); first | done | rfl | (simp only [List.length_drop, List.length_take]; rfl)) ?_; (with_reducible refine (insn_first.calls k1 _ _ x0_1 t170 t171 t172 t173 t174 t175 t176 _ ?side1 ?side2 A6.out).mono ?_); (case side1 => exact ca_ ((Kd.V_reads' HO_0.out).2.2)); (case side2 => exact (Kd.V_reads' HO_0.out).2.1); rintro e w13 ⟨rfl, hb⟩; refine ⟨_, rfl, ?_⟩; replace HO_0 := Aside0.mk (Kd.V_below (by (with_reducible repeat (first | apply Kd.V_alloc | apply Kd.V_drewN | apply Kd.V_drew)); exact HO_0.out) hb); replace HO_4 := Aside0.mk (Kd.R_below (ra_ HO_4.out) hb); replace HB := bl_ hb; (try clear hb); (try clear hk); ) | ((with_reducible refine gate_dst (N := 5) rfl ?_); refine bx_ 5 #[.int .i64 0, .int .i64 0, .int .i64 0, .int .i64 0, .int .i64 0] 40 ?_; intro gb177 hg w14 BK177 hb; have GW177 := bg_ hg; have GE177 := GW177; replace HO_0 := Aside0.mk (Kd.V_below (Kd.V_elderB (by (with_reducible repeat (first | apply Kd.V_alloc | apply Kd.V_drewN | apply Kd.V_drew)); exact HO_0.out) gb177 (Nat.le_of_eq hg.symm)) hb); replace HO_4 := Aside0.mk (Kd.R_below (Kd.R_elderB (ra_ HO_4.out) gb177 (Nat.le_of_eq hg.symm)) hb); replace HB := bl_ hb; clear hb hg; obtain ⟨zc15_0, zc15_1, zc15_2, zc15_3, zc15_4, zf15_0, zf15_1, zf15_2, zf15_3, zf15_4⟩ := k5_ BK177))
   have n0_ : Aside0 (Kd.V (Kd.int .u8) 5 (((((w14.setCell ⟨gb177, 0, none⟩ (.int .i64 t170)).setCell ⟨gb177, 1, none⟩ (.int .i64 t171)).setCell ⟨gb177, 2, none⟩ (.int .i64 t172)).setCell ⟨gb177, 3, none⟩ (.int .i64 t173)).setCell ⟨gb177, 4, none⟩ (.int .i64 t174)) w.heap.size (fun k_ => (P0_ k_ ∨ w.heap.size ≤ k_) ∧ some k_ ≠ (.slice Ao12 x4_1.length co12 : Value).ownBlock ∧ k_ ≠ gb177) (.slice Ao11 x0_1.length co11) x0_1) := ⟨by (with_reducible repeat (first | apply Kd.V_alloc | apply Kd.V_drewN | apply Kd.V_drew)); exact Kd.V_mono (Kd.V_far (p := ⟨gb177, 4, none⟩) (Kd.V_far (p := ⟨gb177, 3, none⟩) (Kd.V_far (p := ⟨gb177, 2, none⟩) (Kd.V_far (p := ⟨gb177, 1, none⟩) (Kd.V_far (p := ⟨gb177, 0, none⟩) (Kd.V_mono HO_0.out (fun k_ hk => (⟨hk, hk.2⟩ : _ ∧ k_ ≠ gb177))) (fun _ hk => hk.2) (.int .i64 t170)) (fun _ hk => hk.2) (.int .i64 t171)) (fun _ hk => hk.2) (.int .i64 t172)) (fun _ hk => hk.2) (.int .i64 t173)) (fun _ hk => hk.2) (.int .i64 t174)) (fun _ hk => ⟨hk.1.1.1, ⟨hk.1.1.2, hk.1.2⟩⟩)⟩
   have n1_ : Aside0 (Kd.R k40 40 (((((w14.setCell ⟨gb177, 0, none⟩ (.int .i64 t170)).setCell ⟨gb177, 1, none⟩ (.int .i64 t171)).setCell ⟨gb177, 2, none⟩ (.int .i64 t172)).setCell ⟨gb177, 3, none⟩ (.int .i64 t173)).setCell ⟨gb177, 4, none⟩ (.int .i64 t174)) w.heap.size (fun k_ => (w.heap.size ≤ k_) ∧ k_ ≠ gb177) (.slice Ao12 x4_1.length co12) x4_1) := ⟨by (with_reducible repeat (first | apply Kd.R_alloc | apply Kd.R_drewN | apply Kd.R_drew)); exact Kd.R_mono (Kd.R_far (p := ⟨gb177, 4, none⟩) (Kd.R_far (p := ⟨gb177, 3, none⟩) (Kd.R_far (p := ⟨gb177, 2, none⟩) (Kd.R_far (p := ⟨gb177, 1, none⟩) (Kd.R_far (p := ⟨gb177, 0, none⟩) (Kd.R_mono HO_4.out (fun k_ hk => (⟨hk, hk.2⟩ : _ ∧ k_ ≠ gb177))) (fun _ hk => hk.2) (.int .i64 t170)) (fun _ hk => hk.2) (.int .i64 t171)) (fun _ hk => hk.2) (.int .i64 t172)) (fun _ hk => hk.2) (.int .i64 t173)) (fun _ hk => hk.2) (.int .i64 t174)) (fun _ hk => ⟨hk.1.1, hk.1.2⟩)⟩
   have n2_ : Aside0 ((((((w14.setCell ⟨gb177, 0, none⟩ (.int .i64 t170)).setCell ⟨gb177, 1, none⟩ (.int .i64 t171)).setCell ⟨gb177, 2, none⟩ (.int .i64 t172)).setCell ⟨gb177, 3, none⟩ (.int .i64 t173)).setCell ⟨gb177, 4, none⟩ (.int .i64 t174)).heap[gb177]? = some (.cells #[.int .i64 t170, .int .i64 t171, .int .i64 t172, .int .i64 t173, .int .i64 t174] 40 (0, 0))) := ⟨by (with_reducible repeat (first | apply bN_ | apply bD_ | apply bA_)); refine blk_put (cs := #[.int .i64 t170, .int .i64 t171, .int .i64 t172, .int .i64 t173, .int .i64 0]) ?_ 4 _ rfl; (with_reducible repeat (first | apply bN_ | apply bD_ | apply bA_)); refine blk_put (cs := #[.int .i64 t170, .int .i64 t171, .int .i64 t172, .int .i64 0, .int .i64 0]) ?_ 3 _ rfl; (with_reducible repeat (first | apply bN_ | apply bD_ | apply bA_)); refine blk_put (cs := #[.int .i64 t170, .int .i64 t171, .int .i64 0, .int .i64 0, .int .i64 0]) ?_ 2 _ rfl; (with_reducible repeat (first | apply bN_ | apply bD_ | apply bA_)); refine blk_put (cs := #[.int .i64 t170, .int .i64 0, .int .i64 0, .int .i64 0, .int .i64 0]) ?_ 1 _ rfl; (with_reducible repeat (first | apply bN_ | apply bD_ | apply bA_)); refine blk_put (cs := #[.int .i64 0, .int .i64 0, .int .i64 0, .int .i64 0, .int .i64 0]) ?_ 0 _ rfl; exact bk_⟩
   have n3_ : Aside0 (Below w.heap.size w (((((w14.setCell ⟨gb177, 0, none⟩ (.int .i64 t170)).setCell ⟨gb177, 1, none⟩ (.int .i64 t171)).setCell ⟨gb177, 2, none⟩ (.int .i64 t172)).setCell ⟨gb177, 3, none⟩ (.int .i64 t173)).setCell ⟨gb177, 4, none⟩ (.int .i64 t174))) := ⟨bz_⟩
   (try clear HO_0)
   (try clear HO_4)
   (try clear BK177)
   (try clear HB)
   generalize (((((w14.setCell ⟨gb177, 0, none⟩ (.int .i64 t170)).setCell ⟨gb177, 1, none⟩ (.int .i64 t171)).setCell ⟨gb177, 2, none⟩ (.int .i64 t172)).setCell ⟨gb177, 3, none⟩ (.int .i64 t173)).setCell ⟨gb177, 4, none⟩ (.int .i64 t174)) = w16 at n0_ n1_ n2_ n3_ ⊢
   have HO_0 := n0_
   have HO_4 := n1_
   have BK177 := n2_
   have HB := n3_
   clear n0_ n1_ n2_ n3_
   replace HO_0 := Aside0.mk (Kd.V_drew HO_0.out)
   replace HO_4 := Aside0.mk (Kd.R_drew HO_4.out)
   replace BK177 := Aside0.mk (blk_drew BK177.out)
   replace HB := Aside0.mk (below_drew1 HB.out)
   have q18 : (t175 : Int) ≤ ((x0_1.length : Int) : Int) := of_decide_eq_true as_
   obtain ⟨i018, hi018, _, hsz18, _⟩ := info_parts info5
   have hroom18 : x0_1.length ≤ co11 := (Kd.V_reads' HO_0.out).2.1
   have hC18 : Kd.F (Kd.int .u8) _ _ Ao11 x0_1.length x0_1 := (Kd.V_at (base := w.heap.size) HO_0.out).2.2
   have q018 : (0 : Int) ≤ (t175 : Int) := of_decide_eq_true as_
   have hcut18 := cut_from (P := Try.prog) 25 5 .i64 Try.underlying25 hi018 1 hsz18 Ao11 x0_1.length co11 t175 q018 q18
   have hr18 := Kd.F_cut (m := (t175 : Int).toNat) (c := co11) hC18 (by omega) hroom18
   obtain ⟨A18, hA18⟩ : ∃ A1, A1 = (if co11 = (t175 : Int).toNat then Ao11 else (Ao11 : Option Addr).map (·.add ((t175 : Int).toNat * 1))) := ⟨_, rfl⟩
   obtain ⟨c18, hc18⟩ : ∃ c1, c1 = co11 - (t175 : Int).toNat := ⟨_, rfl⟩
   have hy18 : y181.length = x0_1.length - (t175 : Int).toNat := (by rw [Ny181.out, List.length_drop] <;> omega)
   rw [show (x0_1).drop (t175 : Int).toNat = y181 from Ny181.out.symm] at hr18
   replace hr18 : Kd.F (Kd.int .u8) _ _ A18 y181.length y181 := (by rw [hA18]; exact hr18)
   rw [← hy18, ← hA18, ← hc18] at hcut18
   have HO185 := Aside0.mk (show Kd.V (Kd.int .u8) 5 _ w.heap.size _ (.slice A18 y181.length c18) y181 from Kd.V_mk (by rw [hy18, hc18]; exact Nat.sub_le_sub_right hroom18 _) hr18)
   have HC185 := Aside0.mk (show y181.length ≤ c18 from by rw [hy18, hc18]; exact Nat.sub_le_sub_right hroom18 _)
   clear hr18 hC18 hroom18 hi018 hsz18 hc18
   have KY18 := Aside0.mk hy18
   have KA18 := Aside0.mk hA18
   clear hy18 hA18
   replace q18 := eq_true q18
   refine start_ (n := 9) (S := fun w' => w'.cell? ⟨gb177, 0, none⟩ = some (.int .i64 t170) ∧ w'.cell? ⟨gb177, 1, none⟩ = some (.int .i64 t171) ∧ w'.cell? ⟨gb177, 2, none⟩ = some (.int .i64 t172) ∧ w'.cell? ⟨gb177, 3, none⟩ = some (.int .i64 t173) ∧ w'.cell? ⟨gb177, 4, none⟩ = some (.int .i64 t174)) (ds := []) #[Z,Z,Z,Z,Z,Z,Z,Z,Z] (by kernel_rfl) rfl rfl ⟨c0_ BK177, c1_ BK177, c2_ BK177, c3_ BK177, c4_ BK177⟩ (fun hHeld => ?_); refine with_tabW insn_Get.tab8 insn_Get.bits8 (fun HT_ HW_ => ?_)
   generalize w16.drew = w17 at HO_0 HO_4 BK177 HB HO185 hHeld ⊢
   refine pq_ 0 23 #[Y,Z,Z,Z,Z,Z,Z,Z,Z] ?_
   refine pq_ 4 27 #[Y,Z,Z,Z,Y,Z,Z,Z,Z] ?_
   refine pq_ 5 28 #[Y,Z,Z,Z,Y,Y,Z,Z,Z] ?_
   refine pq_ 6 29 #[Y,Z,Z,Z,Y,Y,Y,Z,Z] ?_
   refine tq0_ 1 24 #[Y,Y,Z,Z,Y,Y,Y,Z,Z] hHeld ?_
   refine one_ (i := 2) (N := some 25) #[Y,Y,Y,Z,Y,Y,Y,Z,Z] rfl rfl (one_of HT_.out (by kernel_rfl)) (by decide) (fun K hK => ?_)
   refine value_ (w1 := ?_) (v := ?_) (by rfl) rfl ?_ ?_
   rotate_left 2
   ·go_simp
    constructor
    ·rfl
    rfl
   refine hK.out _ _ ⟨(blk_cell (blk_alloc BK177.out _) 0).trans rfl, (blk_cell (blk_alloc BK177.out _) 1).trans rfl, (blk_cell (blk_alloc BK177.out _) 2).trans rfl, (blk_cell (blk_alloc BK177.out _) 3).trans rfl, (blk_cell (blk_alloc BK177.out _) 4).trans rfl⟩ (fun hHeld => ?_)
   clear hK K
   refine norm_ (a' := ?_) ?_ ?_
   rotate_left
   ·show Act.put _ (some 25) _ = _
    simp only [Act.put, s1_, s2_, s3_, i64_w, i32_w]
    rfl
   refine one_ (i := 3) (N := some 26) #[Y,Y,Y,Y,Y,Y,Y,Z,Z] rfl rfl (one_of HT_.out (by kernel_rfl)) (by decide) (fun K hK => ?_)
   refine Kd.R_append_step k40 (w0 := w) w.heap.size (by rfl) (.tmp 23) (.tmp 25) 22 40 (.agg #[(.int .i64 0), (.int .i64 0), (.int .i64 0), (.int .i64 0), (.int .i64 0)]) 40 rfl Try.underlying22 info40 rfl (by decide) (by omega) (.slice Ao12 x4_1.length co12) x4_1 (⟨t170, t171, t172, t173, t174⟩ : S40) [.int .i64 t170, .int .i64 t171, .int .i64 t172, .int .i64 t173, .int .i64 t174] (fun k_ => (w.heap.size ≤ k_) ∧ k_ ≠ gb177) (fun _ => False) rfl rfl ?aP (fun _ hk => hk.elim) ?aF ?aO ?aB ?aS ?aL ?_
   (case aP => exact k40_mkM _ _ _ (⟨t170, t171, t172, t173, t174⟩ : S40))
   (case aB => exact bz_)
   (case aF => exact (fun k_ hk => ⟨(Nat.le_trans (below_size bz_) hk), Kd.freshB (g := gb177) (o := .cells #[.int .i64 t170, .int .i64 t171, .int .i64 t172, .int .i64 t173, .int .i64 t174] 40 (0, 0)) bk_ k_ hk⟩))
   (case aO => exact (ra_ HO_4.out))
   (case aS => exact (below_size bz_))
   (case aL => have := LMc8.out; omega)
   intro v179 w19 ho hb hg hat
   rw [← Ny178.out] at ho
   have n0_ := Aside0.mk (Kd.V_afterv (ok := (fun k_ => (P0_ k_ ∨ w.heap.size ≤ k_) ∧ k_ ≠ gb177)) (by (with_reducible repeat (first | apply Kd.V_alloc | apply Kd.V_drewN | apply Kd.V_drew)); exact Kd.V_mono HO_0.out (fun _ hk => ⟨⟨hk.1, hk.2.2⟩, hk.2.1⟩)) hg hat)
   have n1_ := Aside0.mk (blk_grown (g := gb177) (o := .cells #[.int .i64 t170, .int .i64 t171, .int .i64 t172, .int .i64 t173, .int .i64 t174] 40 (0, 0)) bk_ hg (Kd.R_away HO_4.out (fun _ hk => hk.2)))
   have n2_ := Aside0.mk (Kd.V_afterv (ok := (fun k_ => (P0_ k_ ∨ w.heap.size ≤ k_) ∧ k_ ≠ gb177)) (by (with_reducible repeat (first | apply Kd.V_alloc | apply Kd.V_drewN | apply Kd.V_drew)); exact Kd.V_mono HO185.out (fun _ hk => ⟨⟨hk.1, hk.2.2⟩, hk.2.1⟩)) hg hat)
   have n3_ := Aside0.mk (hb)
   have n4_ := Aside0.mk (ho)
   clear HO_0
   clear BK177
   clear HO185
   clear HB
   clear HO_4
   have HO_0 := n0_
   have BK177 := n1_
   have HO185 := n2_
   have HB := n3_
   have HO180 := n4_
   clear n0_ n1_ n2_ n3_ n4_
   clear ho hb hg hat
   refine hK.out _ _ ⟨c0_ BK177, c1_ BK177, c2_ BK177, c3_ BK177, c4_ BK177⟩ (fun hHeld => ?_)
   clear hK K
   refine norm_ (a' := ?_) ?_ ?_
   rotate_left
   ·show Act.put _ (some 26) _ = _
    simp only [Act.put, s1_, s2_, s3_, i64_w, i32_w]
    rfl
   refine pq_ 7 4 #[Y,Y,Y,Y,Y,Y,Y,Y,Z] ?_
   refine pq_ 8 0 #[Y,Y,Y,Y,Y,Y,Y,Y,Y] ?_
   refine done_ (done_of HT_.out (by kernel_rfl)) ?_
   try go_wp2
   go_roundg k1
   case measure => have := HK1.out; omega
   case rel => exact ⟨(y181), (y178), H', ⟨by have := HK1.out; omega⟩, ⟨by (with_reducible repeat (first | apply Kd.V_alloc | apply Kd.V_drewN | apply Kd.V_drew)); exact Kd.V_mono HO185.out (fun _ hk => ⟨hk.1.1, hk.2⟩)⟩, ⟨by (with_reducible repeat (first | apply Kd.R_alloc | apply Kd.R_drewN | apply Kd.R_drew)); exact Kd.R_mono HO180.out (fun _ hk => hk.1)⟩, ⟨bz_⟩⟩
def insn_Width.f (a0_0 : Int) (a0_1 : Int) (a0_2 : Int) (a0_3 : Int) (a0_4 : Int) : Option (Int) := (insn_uses.f a0_0).bind fun bt514 => (if bt514.2 = true then (if a0_0 = 24 then (some 0) else ((insn_within.f (Go.bits .and .i64 a0_0 7) 1 3).bind fun t516 => (if t516 = true then ((some (([4, 2, 1, 8] : List Int) : List Int)).bind fun y517 => (if 0 ≤ (Go.bits .and .i64 (a0_0 / 8) 3) then (if (Go.bits .and .i64 (a0_0 / 8) 3) < (y517.length : Int) then (some (rd y517 (Go.bits .and .i64 (a0_0 / 8) 3))) else (none)) else (none))) else (some 0)))) else (some 0))
theorem ix63_0 : ∀ (x0 x1 x2 x3 : Value) (w : World), Sem.run Try.prog (Instr.index 63 (.agg #[x0, x1, x2, x3]) (.int .i64 0)) w = .ok x0 w := fun _ _ _ _ _ => rfl
theorem ix63_1 : ∀ (x0 x1 x2 x3 : Value) (w : World), Sem.run Try.prog (Instr.index 63 (.agg #[x0, x1, x2, x3]) (.int .i64 1)) w = .ok x1 w := fun _ _ _ _ _ => rfl
theorem ix63_2 : ∀ (x0 x1 x2 x3 : Value) (w : World), Sem.run Try.prog (Instr.index 63 (.agg #[x0, x1, x2, x3]) (.int .i64 2)) w = .ok x2 w := fun _ _ _ _ _ => rfl
theorem ix63_3 : ∀ (x0 x1 x2 x3 : Value) (w : World), Sem.run Try.prog (Instr.index 63 (.agg #[x0, x1, x2, x3]) (.int .i64 3)) w = .ok x3 w := fun _ _ _ _ _ => rfl
set_option maxHeartbeats 8000000 in
set_option maxRecDepth 100000 in
theorem insn_Width.calls (a0_0 : Int) (a0_1 : Int) (a0_2 : Int) (a0_3 : Int) (a0_4 : Int) (r : Int) (w : World) (h : insn_Width.f a0_0 a0_1 a0_2 a0_3 a0_4 = some r) :
 Calls Try.prog 30 #[.agg #[.int .i64 a0_0, .int .i64 a0_1, .int .i64 a0_2, .int .i64 a0_3, .int .i64 a0_4]] w fun e w' => e = .returned (.int .i64 r) ∧ Below w.heap.size w w' := by
 have hu40 := Try.underlying40
 have HB := Aside0.mk (Below.refl w.heap.size w)
 have H : ((insn_uses.f a0_0).bind fun bt514 => (if bt514.2 = true then (if a0_0 = 24 then (some 0) else ((insn_within.f (Go.bits .and .i64 a0_0 7) 1 3).bind fun t516 => (if t516 = true then ((some (([4, 2, 1, 8] : List Int) : List Int)).bind fun y517 => (if 0 ≤ (Go.bits .and .i64 (a0_0 / 8) 3) then (if (Go.bits .and .i64 (a0_0 / 8) 3) < (y517.length : Int) then (some (rd y517 (Go.bits .and .i64 (a0_0 / 8) 3))) else (none)) else (none))) else (some 0)))) else (some 0))) = some r := h
 clear h
 replace H := Option.bind_eq_some_iff.mp H
 obtain ⟨⟨t514, t515⟩, A20, H⟩ := H
 (try dsimp only at H)
 have A2 := Aside0.mk A20
 clear A20
 by_cases c3 : t515 = true
 rotate_left
 ·replace c3 := Bool.eq_false_iff.mpr c3
  subst c3
  have H1 := if0_ H
  clear H
  have H := H1
  clear H1
  obtain rfl := Option.some.inj H
  go_enter Try.func30, Try.ntmps30
  go_wp2_with (first | ((with_reducible refine gate_dst (N := 1) rfl ?_); refine bx_ 1 #[.int .i64 a0_0, .int .i64 a0_1, .int .i64 a0_2, .int .i64 a0_3, .int .i64 a0_4] 40 ?_; intro gb513 hg w20 BK513 hb; have GW513 := bg_ hg; have GE513 := GW513; replace HB := bl_ hb; clear hb hg; obtain ⟨zc21_0, zc21_1, zc21_2, zc21_3, zc21_4, zf21_0, zf21_1, zf21_2, zf21_3, zf21_4⟩ := k5_ BK513) | ((with_reducible refine gate_callee (f := 39) rfl ?_); refine goesL_ (some 8) rfl rfl Try.func39 (by kernel_rfl) rfl #[.int .i64 a0_0] rfl (by (try simp only [List.map_toArray, List.map_cons, List.map_nil]); first | done | rfl | (simp only [List.length_drop, List.length_take]; rfl)) ?_; (with_reducible refine (insn_uses.calls a0_0 t514 false _ A2.out).mono ?_); rintro e w' ⟨rfl, ⟨nd, rfl⟩⟩; refine ⟨_, rfl, ?_⟩))
  go_ret
  exact ⟨vv_, bz_⟩
 subst c3
 have H1 := if1_ H
 clear H
 have H := H1
 clear H1
 by_cases c4 : a0_0 = 24
 ·rw [if_pos c4] at H
  have c4b0 : (a0_0 == 24) = true := beq_iff_eq.mpr c4
  have c4b1 : (a0_0 != 24) = false := bne_eq_false_iff_eq.mpr c4
  clear c4
  obtain rfl := Option.some.inj H
  go_enter Try.func30, Try.ntmps30
  go_wp2_with (first | ((with_reducible refine gate_dst (N := 1) rfl ?_); refine bx_ 1 #[.int .i64 a0_0, .int .i64 a0_1, .int .i64 a0_2, .int .i64 a0_3, .int .i64 a0_4] 40 ?_; intro gb513 hg w5 BK513 hb; have GW513 := bg_ hg; have GE513 := GW513; replace HB := bl_ hb; clear hb hg; obtain ⟨zc6_0, zc6_1, zc6_2, zc6_3, zc6_4, zf6_0, zf6_1, zf6_2, zf6_3, zf6_4⟩ := k5_ BK513) | ((with_reducible refine gate_callee (f := 39) rfl ?_); refine goesL_ (some 8) rfl rfl Try.func39 (by kernel_rfl) rfl #[.int .i64 a0_0] rfl (by (try simp only [List.map_toArray, List.map_cons, List.map_nil]); first | done | rfl | (simp only [List.length_drop, List.length_take]; rfl)) ?_; (with_reducible refine (insn_uses.calls a0_0 t514 true _ A2.out).mono ?_); rintro e w' ⟨rfl, ⟨nd, rfl⟩⟩; refine ⟨_, rfl, ?_⟩))
  go_ret
  exact ⟨vv_, bz_⟩
 rw [if_neg c4] at H
 have c4b0 : (a0_0 == 24) = false := beq_eq_false_iff_ne.mpr c4
 have c4b1 : (a0_0 != 24) = true := bne_iff_ne.mpr c4
 replace H := Option.bind_eq_some_iff.mp H
 obtain ⟨t516, A70, H⟩ := H
 (try dsimp only at H)
 have A7 := Aside0.mk A70
 clear A70
 by_cases c8 : t516 = true
 rotate_left
 ·replace c8 := Bool.eq_false_iff.mpr c8
  subst c8
  have H1 := if0_ H
  clear H
  have H := H1
  clear H1
  obtain rfl := Option.some.inj H
  go_enter Try.func30, Try.ntmps30
  go_wp2_with (first | ((with_reducible refine gate_dst (N := 1) rfl ?_); refine bx_ 1 #[.int .i64 a0_0, .int .i64 a0_1, .int .i64 a0_2, .int .i64 a0_3, .int .i64 a0_4] 40 ?_; intro gb513 hg w18 BK513 hb; have GW513 := bg_ hg; have GE513 := GW513; replace HB := bl_ hb; clear hb hg; obtain ⟨zc19_0, zc19_1, zc19_2, zc19_3, zc19_4, zf19_0, zf19_1, zf19_2, zf19_3, zf19_4⟩ := k5_ BK513) | ((with_reducible refine gate_callee (f := 39) rfl ?_); refine goesL_ (some 8) rfl rfl Try.func39 (by kernel_rfl) rfl #[.int .i64 a0_0] rfl (by (try simp only [List.map_toArray, List.map_cons, List.map_nil]); first | done | rfl | (simp only [List.length_drop, List.length_take]; rfl)) ?_; (with_reducible refine (insn_uses.calls a0_0 t514 true _ A2.out).mono ?_); rintro e w' ⟨rfl, ⟨nd, rfl⟩⟩; refine ⟨_, rfl, ?_⟩) | (go_at_call 40; (with_reducible refine (insn_within.calls (Go.bits .and .i64 a0_0 7) 1 3 false _ A7.out).mono ?_); rintro e w' ⟨rfl, ⟨nd, rfl⟩⟩))
  go_ret
  exact ⟨vv_, bz_⟩
 subst c8
 have H1 := if1_ H
 clear H
 have H := H1
 clear H1
 obtain ⟨y517, hy517⟩ : ∃ Y : List Int, Y = (([4, 2, 1, 8] : List Int)) := ⟨_, rfl⟩
 replace H : (if 0 ≤ (Go.bits .and .i64 (a0_0 / 8) 3) then (if (Go.bits .and .i64 (a0_0 / 8) 3) < (y517.length : Int) then (some (rd y517 (Go.bits .and .i64 (a0_0 / 8) 3))) else (none)) else (none)) = some r := by first | (rw [hy517]; with_reducible exact H) | (have H2_ := (Option.bind_some _ _).symm.trans H; rw [hy517]; with_reducible exact H2_) | (have H2_ := (Option.bind_some _ _).symm.trans H; with_reducible exact H2_) | with_reducible exact H | (rw [hy517]; exact H) | exact H
 have Ny517 := Aside0.mk hy517
 clear hy517
 obtain ⟨ji9, hji9⟩ : ∃ j_ : Int, (Go.bits .and .i64 (a0_0 / 8) 3) = j_ := ⟨_, rfl⟩
 replace H : (if 0 ≤ (ji9) then (if (ji9) < (y517.length : Int) then (some (rd y517 (ji9))) else (none)) else (none)) = some r := by first | (rw [hji9] at H; exact H) | (simp only [hji9] at H ⊢; exact H)
 (try rw [hji9] at A2)
 (try rw [hji9] at A7)
 by_cases c10 : 0 ≤ (ji9)
 rotate_left
 ·rw [if_neg c10] at H
  exact absurd H (by simp)
 rw [if_pos c10] at H
 have c10b0 : decide (0 ≤ (ji9)) = true := decide_eq_true c10
 clear c10
 have h4 : (y517.length : Int) = 4 := by rw [Ny517.out]; rfl
 by_cases c11 : (ji9) < (y517.length : Int)
 rotate_left
 ·rw [if_neg c11] at H
  exact absurd H (by simp)
 rw [if_pos c11] at H
 have hj : ji9 = 0 ∨ ji9 = 1 ∨ ji9 = 2 ∨ ji9 = 3 := by have q_ := of_decide_eq_true c10b0; omega
 have Hr := Option.some.inj H
 rw [Ny517.out] at Hr
 clear H c11 h4 Ny517
 rcases hj with rfl | rfl | rfl | rfl <;> obtain rfl : _ = r := Hr
 ·go_enter Try.func30, Try.ntmps30
  go_wp2_with (first | ((with_reducible refine gate_dst (N := 1) rfl ?_); refine bx_ 1 #[.int .i64 a0_0, .int .i64 a0_1, .int .i64 a0_2, .int .i64 a0_3, .int .i64 a0_4] 40 ?_; intro gb513 hg w12 BK513 hb; have GW513 := bg_ hg; have GE513 := GW513; replace HB := bl_ hb; clear hb hg; obtain ⟨zc13_0, zc13_1, zc13_2, zc13_3, zc13_4, zf13_0, zf13_1, zf13_2, zf13_3, zf13_4⟩ := k5_ BK513) | ((with_reducible refine gate_callee (f := 39) rfl ?_); refine goesL_ (some 8) rfl rfl Try.func39 (by kernel_rfl) rfl #[.int .i64 a0_0] rfl (by (try simp only [List.map_toArray, List.map_cons, List.map_nil]); first | done | rfl | (simp only [List.length_drop, List.length_take]; rfl)) ?_; (with_reducible refine (insn_uses.calls a0_0 t514 true _ A2.out).mono ?_); rintro e w' ⟨rfl, ⟨nd, rfl⟩⟩; refine ⟨_, rfl, ?_⟩) | (go_at_call 40; (with_reducible refine (insn_within.calls (Go.bits .and .i64 a0_0 7) 1 3 true _ A7.out).mono ?_); rintro e w' ⟨rfl, ⟨nd, rfl⟩⟩))
  (repeat (simp only [ix63_0, ix63_1, ix63_2, ix63_3]; go_wp2_with (first | ((with_reducible refine gate_dst (N := 1) rfl ?_); refine bx_ 1 #[.int .i64 a0_0, .int .i64 a0_1, .int .i64 a0_2, .int .i64 a0_3, .int .i64 a0_4] 40 ?_; intro gb513 hg w12 BK513 hb; have GW513 := bg_ hg; have GE513 := GW513; replace HB := bl_ hb; clear hb hg; obtain ⟨zc13_0, zc13_1, zc13_2, zc13_3, zc13_4, zf13_0, zf13_1, zf13_2, zf13_3, zf13_4⟩ := k5_ BK513) | ((with_reducible refine gate_callee (f := 39) rfl ?_); refine goesL_ (some 8) rfl rfl Try.func39 (by kernel_rfl) rfl #[.int .i64 a0_0] rfl (by (try simp only [List.map_toArray, List.map_cons, List.map_nil]); first | done | rfl | (simp only [List.length_drop, List.length_take]; rfl)) ?_; (with_reducible refine (insn_uses.calls a0_0 t514 true _ A2.out).mono ?_); rintro e w' ⟨rfl, ⟨nd, rfl⟩⟩; refine ⟨_, rfl, ?_⟩) | (go_at_call 40; (with_reducible refine (insn_within.calls (Go.bits .and .i64 a0_0 7) 1 3 true _ A7.out).mono ?_); rintro e w' ⟨rfl, ⟨nd, rfl⟩⟩))))
  go_ret
  exact ⟨vv_, bz_⟩
 ·go_enter Try.func30, Try.ntmps30
  go_wp2_with (first | ((with_reducible refine gate_dst (N := 1) rfl ?_); refine bx_ 1 #[.int .i64 a0_0, .int .i64 a0_1, .int .i64 a0_2, .int .i64 a0_3, .int .i64 a0_4] 40 ?_; intro gb513 hg w12 BK513 hb; have GW513 := bg_ hg; have GE513 := GW513; replace HB := bl_ hb; clear hb hg; obtain ⟨zc13_0, zc13_1, zc13_2, zc13_3, zc13_4, zf13_0, zf13_1, zf13_2, zf13_3, zf13_4⟩ := k5_ BK513) | ((with_reducible refine gate_callee (f := 39) rfl ?_); refine goesL_ (some 8) rfl rfl Try.func39 (by kernel_rfl) rfl #[.int .i64 a0_0] rfl (by (try simp only [List.map_toArray, List.map_cons, List.map_nil]); first | done | rfl | (simp only [List.length_drop, List.length_take]; rfl)) ?_; (with_reducible refine (insn_uses.calls a0_0 t514 true _ A2.out).mono ?_); rintro e w' ⟨rfl, ⟨nd, rfl⟩⟩; refine ⟨_, rfl, ?_⟩) | (go_at_call 40; (with_reducible refine (insn_within.calls (Go.bits .and .i64 a0_0 7) 1 3 true _ A7.out).mono ?_); rintro e w' ⟨rfl, ⟨nd, rfl⟩⟩))
  (repeat (simp only [ix63_0, ix63_1, ix63_2, ix63_3]; go_wp2_with (first | ((with_reducible refine gate_dst (N := 1) rfl ?_); refine bx_ 1 #[.int .i64 a0_0, .int .i64 a0_1, .int .i64 a0_2, .int .i64 a0_3, .int .i64 a0_4] 40 ?_; intro gb513 hg w12 BK513 hb; have GW513 := bg_ hg; have GE513 := GW513; replace HB := bl_ hb; clear hb hg; obtain ⟨zc13_0, zc13_1, zc13_2, zc13_3, zc13_4, zf13_0, zf13_1, zf13_2, zf13_3, zf13_4⟩ := k5_ BK513) | ((with_reducible refine gate_callee (f := 39) rfl ?_); refine goesL_ (some 8) rfl rfl Try.func39 (by kernel_rfl) rfl #[.int .i64 a0_0] rfl (by (try simp only [List.map_toArray, List.map_cons, List.map_nil]); first | done | rfl | (simp only [List.length_drop, List.length_take]; rfl)) ?_; (with_reducible refine (insn_uses.calls a0_0 t514 true _ A2.out).mono ?_); rintro e w' ⟨rfl, ⟨nd, rfl⟩⟩; refine ⟨_, rfl, ?_⟩) | (go_at_call 40; (with_reducible refine (insn_within.calls (Go.bits .and .i64 a0_0 7) 1 3 true _ A7.out).mono ?_); rintro e w' ⟨rfl, ⟨nd, rfl⟩⟩))))
  go_ret
  exact ⟨vv_, bz_⟩
 ·go_enter Try.func30, Try.ntmps30
  go_wp2_with (first | ((with_reducible refine gate_dst (N := 1) rfl ?_); refine bx_ 1 #[.int .i64 a0_0, .int .i64 a0_1, .int .i64 a0_2, .int .i64 a0_3, .int .i64 a0_4] 40 ?_; intro gb513 hg w12 BK513 hb; have GW513 := bg_ hg; have GE513 := GW513; replace HB := bl_ hb; clear hb hg; obtain ⟨zc13_0, zc13_1, zc13_2, zc13_3, zc13_4, zf13_0, zf13_1, zf13_2, zf13_3, zf13_4⟩ := k5_ BK513) | ((with_reducible refine gate_callee (f := 39) rfl ?_); refine goesL_ (some 8) rfl rfl Try.func39 (by kernel_rfl) rfl #[.int .i64 a0_0] rfl (by (try simp only [List.map_toArray, List.map_cons, List.map_nil]); first | done | rfl | (simp only [List.length_drop, List.length_take]; rfl)) ?_; (with_reducible refine (insn_uses.calls a0_0 t514 true _ A2.out).mono ?_); rintro e w' ⟨rfl, ⟨nd, rfl⟩⟩; refine ⟨_, rfl, ?_⟩) | (go_at_call 40; (with_reducible refine (insn_within.calls (Go.bits .and .i64 a0_0 7) 1 3 true _ A7.out).mono ?_); rintro e w' ⟨rfl, ⟨nd, rfl⟩⟩))
  (repeat (simp only [ix63_0, ix63_1, ix63_2, ix63_3]; go_wp2_with (first | ((with_reducible refine gate_dst (N := 1) rfl ?_); refine bx_ 1 #[.int .i64 a0_0, .int .i64 a0_1, .int .i64 a0_2, .int .i64 a0_3, .int .i64 a0_4] 40 ?_; intro gb513 hg w12 BK513 hb; have GW513 := bg_ hg; have GE513 := GW513; replace HB := bl_ hb; clear hb hg; obtain ⟨zc13_0, zc13_1, zc13_2, zc13_3, zc13_4, zf13_0, zf13_1, zf13_2, zf13_3, zf13_4⟩ := k5_ BK513) | ((with_reducible refine gate_callee (f := 39) rfl ?_); refine goesL_ (some 8) rfl rfl Try.func39 (by kernel_rfl) rfl #[.int .i64 a0_0] rfl (by (try simp only [List.map_toArray, List.map_cons, List.map_nil]); first | done | rfl | (simp only [List.length_drop, List.length_take]; rfl)) ?_; (with_reducible refine (insn_uses.calls a0_0 t514 true _ A2.out).mono ?_); rintro e w' ⟨rfl, ⟨nd, rfl⟩⟩; refine ⟨_, rfl, ?_⟩) | (go_at_call 40; (with_reducible refine (insn_within.calls (Go.bits .and .i64 a0_0 7) 1 3 true _ A7.out).mono ?_); rintro e w' ⟨rfl, ⟨nd, rfl⟩⟩))))
  go_ret
  exact ⟨vv_, bz_⟩
 go_enter Try.func30, Try.ntmps30
 go_wp2_with (first | ((with_reducible refine gate_dst (N := 1) rfl ?_); refine bx_ 1 #[.int .i64 a0_0, .int .i64 a0_1, .int .i64 a0_2, .int .i64 a0_3, .int .i64 a0_4] 40 ?_; intro gb513 hg w12 BK513 hb; have GW513 := bg_ hg; have GE513 := GW513; replace HB := bl_ hb; clear hb hg; obtain ⟨zc13_0, zc13_1, zc13_2, zc13_3, zc13_4, zf13_0, zf13_1, zf13_2, zf13_3, zf13_4⟩ := k5_ BK513) | ((with_reducible refine gate_callee (f := 39) rfl ?_); refine goesL_ (some 8) rfl rfl Try.func39 (by kernel_rfl) rfl #[.int .i64 a0_0] rfl (by (try simp only [List.map_toArray, List.map_cons, List.map_nil]); first | done | rfl | (simp only [List.length_drop, List.length_take]; rfl)) ?_; (with_reducible refine (insn_uses.calls a0_0 t514 true _ A2.out).mono ?_); rintro e w' ⟨rfl, ⟨nd, rfl⟩⟩; refine ⟨_, rfl, ?_⟩) | (go_at_call 40; (with_reducible refine (insn_within.calls (Go.bits .and .i64 a0_0 7) 1 3 true _ A7.out).mono ?_); rintro e w' ⟨rfl, ⟨nd, rfl⟩⟩))
 (repeat (simp only [ix63_0, ix63_1, ix63_2, ix63_3]; go_wp2_with (first | ((with_reducible refine gate_dst (N := 1) rfl ?_); refine bx_ 1 #[.int .i64 a0_0, .int .i64 a0_1, .int .i64 a0_2, .int .i64 a0_3, .int .i64 a0_4] 40 ?_; intro gb513 hg w12 BK513 hb; have GW513 := bg_ hg; have GE513 := GW513; replace HB := bl_ hb; clear hb hg; obtain ⟨zc13_0, zc13_1, zc13_2, zc13_3, zc13_4, zf13_0, zf13_1, zf13_2, zf13_3, zf13_4⟩ := k5_ BK513) | ((with_reducible refine gate_callee (f := 39) rfl ?_); refine goesL_ (some 8) rfl rfl Try.func39 (by kernel_rfl) rfl #[.int .i64 a0_0] rfl (by (try simp only [List.map_toArray, List.map_cons, List.map_nil]); first | done | rfl | (simp only [List.length_drop, List.length_take]; rfl)) ?_; (with_reducible refine (insn_uses.calls a0_0 t514 true _ A2.out).mono ?_); rintro e w' ⟨rfl, ⟨nd, rfl⟩⟩; refine ⟨_, rfl, ?_⟩) | (go_at_call 40; (with_reducible refine (insn_within.calls (Go.bits .and .i64 a0_0 7) 1 3 true _ A7.out).mono ?_); rintro e w' ⟨rfl, ⟨nd, rfl⟩⟩))))
 go_ret
 exact ⟨vv_, bz_⟩
end Go.Proofs.Yticijjonimiooaa.PA
