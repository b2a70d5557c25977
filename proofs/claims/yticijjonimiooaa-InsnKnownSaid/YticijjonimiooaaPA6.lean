import Derived.Test.YticijjonimiooaaWTab
import Derived.Test.YticijjonimiooaaWRepsOne
import Derived.Test.YticijjonimiooaaPA0
import Derived.Test.YticijjonimiooaaSq
import Derived.Test.YticijjonimiooaaPA2
import Derived.Test.YticijjonimiooaaPA4
import Derived.Test.YticijjonimiooaaPA5
namespace Go.Proofs.Yticijjonimiooaa.PA
open Go.RowKit Go.Proofs.YticijjonimiooaaW.PrintWords Go.Proofs.YticijjonimiooaaW.PrintLast Go.Proofs.YticijjonimiooaaW.PrintMore
attribute [local go_sem] max2_int min2_int max_two min_two max_three min_three max_four min_four
set_option linter.unusedVariables false
set_option linter.unusedSimpArgs false
def insn_Put.l0 : Nat → List Int → List (S40) → Int → Int → Option (List Int × Int)
 | 0, _, _, _, _ => none
 | k + 1, x4, x11, x12, x13 => if x13 < x12 then (if 0 ≤ x13 then (if x13 < (x11.length : Int) then ((insn_Check.f k ((rd_T40 x11 x13).f0) ((rd_T40 x11 x13).f1) ((rd_T40 x11 x13).f2) ((rd_T40 x11 x13).f3) ((rd_T40 x11 x13).f4)).bind fun t131 => (if t131 = 0 then ((some (([((rd_T40 x11 x13).f0) % 256, (Go.bits .or .i64 (wrap64 (((rd_T40 x11 x13).f2) * 16)) ((rd_T40 x11 x13).f1)) % 256] : List Int) : List Int)).bind fun y132 => (if x4.length + y132.length < 140737488355328 then ((insn_low.f k (x4 ++ y132) ((rd_T40 x11 x13).f3) 2).bind fun t138 => ((insn_low.f k t138 ((rd_T40 x11 x13).f4) 4).bind fun t141 => ((insn_Size.f ((rd_T40 x11 x13).f0) ((rd_T40 x11 x13).f1) ((rd_T40 x11 x13).f2) ((rd_T40 x11 x13).f3) ((rd_T40 x11 x13).f4)).bind fun t144 => (if t144 = 2 then ((insn_low.f k t141 0 4).bind fun t145 => ((insn_low.f k t145 (((rd_T40 x11 x13).f4) / 4294967296) 4).bind fun t148 => (insn_Put.l0 k t148 x11 x12 (wrap64 (x13 + 1))))) else (insn_Put.l0 k t141 x11 x12 (wrap64 (x13 + 1))))))) else (none))) else (some (([] : List Int), t131)))) else (none)) else (none)) else (some (x4, 0))
def insn_Put.f (k : Nat) (l0 : List (S40)) : Option (List Int × Int) := if (l0.length : Int) > 256 then (some (([] : List Int), 9)) else (insn_Put.l0 k ([] : List Int) l0 (l0.length : Int) 0)
theorem insn_Put.mono_l : ∀ k, (∀ y0 y1 y2 y3, LeO (insn_Put.l0 k y0 y1 y2 y3) (insn_Put.l0 (k + 1) y0 y1 y2 y3))
 | 0 => fun _ _ _ _ r h => by simp [insn_Put.l0] at h
 | k + 1 => by
  have ih0 := insn_Put.mono_l k
  intro y0 y1 y2 y3
  unfold insn_Put.l0
  repeat' first
  | (with_reducible exact ih0 _ _ _ _)
  | (with_reducible exact insn_Check.mono _ _ _ _ _ _)
  | (with_reducible exact insn_low.mono _ _ _ _)
  | (with_reducible exact LeO.refl _)
  | (with_reducible exact LeO.none _)
  | (with_reducible refine LeO.ite ?_ ?_)
  | (with_reducible refine LeO.bind ?_ (fun _ => ?_))
  | exact ih0 _ _ _ _
  | exact insn_Check.mono _ _ _ _ _ _
  | exact insn_low.mono _ _ _ _
  | exact LeO.none _
  | refine LeO.ite ?_ ?_
  | refine LeO.bind ?_ (fun _ => ?_)
theorem insn_Put.mono : ∀ a0 k, LeO (insn_Put.f k a0) (insn_Put.f (k + 1) a0) := by
 intro a0 k
 have ih0 := insn_Put.mono_l k
 unfold insn_Put.f
 repeat' first
  | (with_reducible exact ih0 _ _ _ _)
  | (with_reducible exact insn_Check.mono _ _ _ _ _ _)
  | (with_reducible exact insn_low.mono _ _ _ _)
  | (with_reducible exact LeO.refl _)
  | (with_reducible exact LeO.none _)
  | (with_reducible refine LeO.ite ?_ ?_)
  | (with_reducible refine LeO.bind ?_ (fun _ => ?_))
  | exact ih0 _ _ _ _
  | exact insn_Check.mono _ _ _ _ _ _
  | exact insn_low.mono _ _ _ _
  | exact LeO.none _
  | refine LeO.ite ?_ ?_
  | refine LeO.bind ?_ (fun _ => ?_)
def insn_Put.T10 : Bool × List (List Nat × List Nat) := (true, [([], []), ([], []), ([1], [1]), ([2], [2]), ([], []), ([4], [4]), ([5], [5]), ([], []), ([7], [7]), ([6, 8], [6, 8]), ([9], [9]), ([3, 10], [3, 10]), ([0, 11], [0, 11]), ([], []), ([13], [13]), ([12, 14, 12], [12, 14]), ([], []), ([16], [16]), ([15, 17, 15], [15, 17]), ([18, 18, 0, 1, 2, 3, 4, 5, 6, 7, 8, 9, 10, 11, 12, 13, 14, 15, 16, 17, 18], [0, 18])])
def insn_Put.B10 : List Nat := [0, 0, 2, 6, 0, 16, 48, 0, 128, 496, 1008, 2046, 4095, 0, 8192, 32767, 0, 65536, 262143, 524287]
theorem insn_Put.tab10 : rtab .any (opsOf Try.f13 10) = insn_Put.T10 := by kernel_rfl
theorem insn_Put.bits10 : waitsOk insn_Put.T10.2 insn_Put.B10 = true := by kernel_rfl
set_option maxHeartbeats 8000000 in
set_option maxRecDepth 100000 in
theorem insn_Put.calls (k : Nat) (A0 : Option Addr) (c0 : Nat) (l0 : List (S40)) (r1 : List Int) (r2 : Int) (w : World) (hr0 : Kd.C k40 w A0 l0.length l0) (hc0 : l0.length ≤ c0) (h : insn_Put.f k l0 = some (r1, r2)) :
 Calls Try.prog 13 #[.slice A0 l0.length c0] w fun e w' => ∃ v0_ : Value, e = .returned (.tuple #[v0_, .int .i64 r2]) ∧ Kd.R (Kd.int .u8) 5 w' w.heap.size (fun _ => True) v0_ r1 ∧ Below w.heap.size w w' := by
 have hu40 := Try.underlying40
 have HR0 := Aside0.mk hr0
 have HC0 := Aside0.mk hc0
 clear hr0 hc0
 have HB := Aside0.mk (Below.refl w.heap.size w)
 have H : (if (l0.length : Int) > 256 then (some (([] : List Int), 9)) else (insn_Put.l0 k ([] : List Int) l0 (l0.length : Int) 0)) = some (r1, r2) := h
 clear h
 by_cases c2 : (l0.length : Int) > 256
 ·rw [if_pos c2] at H
  have c2b0 : decide (256 < (l0.length : Int)) = true := decide_eq_true c2
  have c2b1 : decide (256 < l0.length) = true := decide_eq_true (by omega)
  clear c2
  simp only [Option.some.injEq, Prod.mk.injEq] at H
  obtain ⟨rfl, rfl⟩ := H
  go_enter Try.func13, Try.ntmps13
  go_wp2
  go_ret2
  exact ⟨_, by first | rfl | (simp [errW_none, errW_some] <;> rfl) | (simp [*, errW_none, errW_some] <;> rfl), by first | exact Kd.R_nil _ _ _ _ _ | exact Kd.N_nil _ _ _ _ _ | exact Kd.V_nil _ _ _ _ _ | exact Kd.Q_nil _ _ _ _ _ | exact Kd.S_nil _ _ _ _ _, bz_⟩
 rw [if_neg c2] at H
 have c2b0 : decide (256 < (l0.length : Int)) = false := decide_eq_false c2
 have c2b1 : decide (256 < l0.length) = false := decide_eq_false (by omega)
 clear c2
 have H' := Aside0.mk H
 clear H
 go_enter Try.func13, Try.ntmps13
 go_wp2
 go_loopg [4, 13] k (fun kq v4 v13 w' => ∃ (x4_1 : List Int) (x13_1 : Int), v13 = .int .i64 x13_1 ∧ Aside0 (insn_Put.l0 kq x4_1 l0 (l0.length : Int) x13_1 = some (r1, r2)) ∧ Aside0 (kq ≤ k) ∧ Aside0 (Kd.R (Kd.int .u8) 5 w' w.heap.size (fun _ => True) v4 x4_1) ∧ Aside0 (Below w.heap.size w w'))
 case atStart => exact ⟨(([] : List Int)), (0), vs_, H', ⟨Nat.le_refl _⟩, ⟨by first | exact Kd.R_nil _ _ _ _ _ | exact Kd.N_nil _ _ _ _ _ | exact Kd.V_nil _ _ _ _ _ | exact Kd.Q_nil _ _ _ _ _ | exact Kd.S_nil _ _ _ _ _⟩, ⟨bz_⟩⟩
 case round =>
  clear H'
  try clear c1
  try clear c2
  try clear c2b0
  try clear c2b1
  try clear p2
  obtain ⟨x4_1, x13_1, rfl, HA, HK1, HO_4, HB⟩ := hrel
  cases gk with
  | zero => exact absurd HA.out (by simp [insn_Put.l0])
  | succ k1 =>
   have H := HA.out
   clear HA
   simp only [insn_Put.l0] at H
   by_cases c3 : x13_1 < (l0.length : Int)
   rotate_left
   ·rw [if_neg c3] at H
    have c3b0 : decide (x13_1 < (l0.length : Int)) = false := decide_eq_false c3
    clear c3
    simp only [Option.some.injEq, Prod.mk.injEq] at H
    obtain ⟨rfl, rfl⟩ := H
    go_wp2
    go_ret2
    exact ⟨_, by first | rfl | (simp [errW_none, errW_some] <;> rfl) | (simp [*, errW_none, errW_some] <;> rfl), by (with_reducible repeat (first | apply Kd.R_alloc | apply Kd.R_drewN | apply Kd.R_drew)); exact HO_4.out, bz_⟩
   rw [if_pos c3] at H
   have c3b0 : decide (x13_1 < (l0.length : Int)) = true := decide_eq_true c3
   clear c3
   by_cases c4 : 0 ≤ x13_1
   rotate_left
   ·rw [if_neg c4] at H
    exact absurd H (by simp)
   rw [if_pos c4] at H
   have c4b0 : decide (0 ≤ x13_1) = true := decide_eq_true c4
   clear c4
   by_cases c5 : x13_1 < (l0.length : Int)
   rotate_left
   ·rw [if_neg c5] at H
    exact absurd H (by simp)
   rw [if_pos c5] at H
   have c5b0 : decide (x13_1 < (l0.length : Int)) = true := decide_eq_true c5
   clear c5
   replace H := Option.bind_eq_some_iff.mp H
   obtain ⟨t131, A60, H⟩ := H
   (try dsimp only at H)
   have A6 := Aside0.mk A60
   clear A60
   by_cases c7 : t131 = 0
   rotate_left
   ·rw [if_neg c7] at H
    have c7b0 : (t131 == 0) = false := beq_eq_false_iff_ne.mpr c7
    have c7b1 : (t131 != 0) = true := bne_iff_ne.mpr c7
    simp only [Option.some.injEq, Prod.mk.injEq] at H
    obtain ⟨rfl, rfl⟩ := H
    have p129 : 0 ≤ (x13_1 : Int) := of_decide_eq_true as_
    have q129 : x13_1 < (l0.length : Int) := of_decide_eq_true as_
    obtain ⟨ad129, e129, hx129_0, hx129_1, hx129_2, hx129_3, hx129_4⟩ := at_T40 HR0.out x13_1 p129 q129
    cases e129
    replace hx129_0 := (hc_ HB hx129_0 :)
    replace hx129_1 := (hc_ HB hx129_1 :)
    replace hx129_2 := (hc_ HB hx129_2 :)
    replace hx129_3 := (hc_ HB hx129_3 :)
    replace hx129_4 := (hc_ HB hx129_4 :)
    replace p129 := eq_true p129
    replace q129 := eq_true q129
    go_wp2_with (first | ((with_reducible refine gate_dst (N := 6) rfl ?_); refine bx_ 6 #[.int .i64 0, .int .i64 0, .int .i64 0, .int .i64 0, .int .i64 0] 40 ?_; intro gb130 hg w48 BK130 hb; have GW130 := bg_ hg; have GE130 := GW130; replace HO_4 := Aside0.mk (Kd.R_below (ra_ HO_4.out) hb); replace HB := bl_ hb; clear hb hg; obtain ⟨zc49_0, zc49_1, zc49_2, zc49_3, zc49_4, zf49_0, zf49_1, zf49_2, zf49_3, zf49_4⟩ := k5_ BK130) | ((with_reducible refine gate_callee (f := 25) rfl ?_); refine gM_ 18 Try.func25 (insn_Check.calls k1 ((rd_T40 l0 x13_1).f0) ((rd_T40 l0 x13_1).f1) ((rd_T40 l0 x13_1).f2) ((rd_T40 l0 x13_1).f3) ((rd_T40 l0 x13_1).f4) t131 _ A6.out) ?_; intro w50 hb; have n0_ := Aside0.mk (Kd.R_below (by (with_reducible repeat (first | apply Kd.R_alloc | apply Kd.R_drewN | apply Kd.R_drew)); exact (Kd.R_mono (Kd.R_far (p := ⟨gb130, 4, none⟩) (Kd.R_far (p := ⟨gb130, 3, none⟩) (Kd.R_far (p := ⟨gb130, 2, none⟩) (Kd.R_far (p := ⟨gb130, 1, none⟩) (Kd.R_far (p := ⟨gb130, 0, none⟩) (Kd.R_types HO_4.out BK130.out (by decide)) (fun _ hk => hk.2) (.int .i64 ((rd_T40 l0 x13_1).f0))) (fun _ hk => hk.2) (.int .i64 ((rd_T40 l0 x13_1).f1))) (fun _ hk => hk.2) (.int .i64 ((rd_T40 l0 x13_1).f2))) (fun _ hk => hk.2) (.int .i64 ((rd_T40 l0 x13_1).f3))) (fun _ hk => hk.2) (.int .i64 ((rd_T40 l0 x13_1).f4))) (fun _ h_ => h_.1))) hb); have n1_ := Aside0.mk (blk_below (g := gb130) (o := .cells #[.int .i64 ((rd_T40 l0 x13_1).f0), .int .i64 ((rd_T40 l0 x13_1).f1), .int .i64 ((rd_T40 l0 x13_1).f2), .int .i64 ((rd_T40 l0 x13_1).f3), .int .i64 ((rd_T40 l0 x13_1).f4)] 40 (0, 0)) (by (with_reducible repeat (first | apply bN_ | apply bD_ | apply bA_)); refine blk_put (cs := #[.int .i64 ((rd_T40 l0 x13_1).f0), .int .i64 ((rd_T40 l0 x13_1).f1), .int .i64 ((rd_T40 l0 x13_1).f2), .int .i64 ((rd_T40 l0 x13_1).f3), .int .i64 0]) ?_ 4 _ rfl; (with_reducible repeat (first | apply bN_ | apply bD_ | apply bA_)); refine blk_put (cs := #[.int .i64 ((rd_T40 l0 x13_1).f0), .int .i64 ((rd_T40 l0 x13_1).f1), .int .i64 ((rd_T40 l0 x13_1).f2), .int .i64 0, .int .i64 0]) ?_ 3 _ rfl; (with_reducible repeat (first | apply bN_ | apply bD_ | apply bA_)); refine blk_put (cs := #[.int .i64 ((rd_T40 l0 x13_1).f0), .int .i64 ((rd_T40 l0 x13_1).f1), .int .i64 0, .int .i64 0, .int .i64 0]) ?_ 2 _ rfl; (with_reducible repeat (first | apply bN_ | apply bD_ | apply bA_)); refine blk_put (cs := #[.int .i64 ((rd_T40 l0 x13_1).f0), .int .i64 0, .int .i64 0, .int .i64 0, .int .i64 0]) ?_ 1 _ rfl; (with_reducible repeat (first | apply bN_ | apply bD_ | apply bA_)); refine blk_put (cs := #[.int .i64 0, .int .i64 0, .int .i64 0, .int .i64 0, .int .i64 0]) ?_ 0 _ rfl; exact bk_) hb); have n2_ := bl_ hb; clear HO_4; clear BK130; clear HB; have HO_4 := n0_; have BK130 := n1_; have HB := n2_; clear n0_ n1_ n2_; (try clear hb); (try clear hk); ))
    go_ret2
    exact ⟨_, by first | rfl | (simp [errW_none, errW_some] <;> rfl) | (simp [*, errW_none, errW_some] <;> rfl), by first | exact Kd.R_nil _ _ _ _ _ | exact Kd.N_nil _ _ _ _ _ | exact Kd.V_nil _ _ _ _ _ | exact Kd.Q_nil _ _ _ _ _ | exact Kd.S_nil _ _ _ _ _, bz_⟩
   rw [if_pos c7] at H
   have c7b0 : (t131 == 0) = true := beq_iff_eq.mpr c7
   have c7b1 : (t131 != 0) = false := bne_eq_false_iff_eq.mpr c7
   clear c7
   obtain ⟨y132, hy132⟩ : ∃ Y : List Int, Y = (([((rd_T40 l0 x13_1).f0) % 256, (Go.bits .or .i64 (wrap64 (((rd_T40 l0 x13_1).f2) * 16)) ((rd_T40 l0 x13_1).f1)) % 256] : List Int)) := ⟨_, rfl⟩
   replace H : (if x4_1.length + y132.length < 140737488355328 then ((insn_low.f k1 (x4_1 ++ y132) ((rd_T40 l0 x13_1).f3) 2).bind fun t138 => ((insn_low.f k1 t138 ((rd_T40 l0 x13_1).f4) 4).bind fun t141 => ((insn_Size.f ((rd_T40 l0 x13_1).f0) ((rd_T40 l0 x13_1).f1) ((rd_T40 l0 x13_1).f2) ((rd_T40 l0 x13_1).f3) ((rd_T40 l0 x13_1).f4)).bind fun t144 => (if t144 = 2 then ((insn_low.f k1 t141 0 4).bind fun t145 => ((insn_low.f k1 t145 (((rd_T40 l0 x13_1).f4) / 4294967296) 4).bind fun t148 => (insn_Put.l0 k1 t148 l0 (l0.length : Int) (wrap64 (x13_1 + 1))))) else (insn_Put.l0 k1 t141 l0 (l0.length : Int) (wrap64 (x13_1 + 1))))))) else (none)) = some (r1, r2) := by first | (rw [hy132]; with_reducible exact H) | (have H2_ := (Option.bind_some _ _).symm.trans H; rw [hy132]; with_reducible exact H2_) | (have H2_ := (Option.bind_some _ _).symm.trans H; with_reducible exact H2_) | with_reducible exact H | (rw [hy132]; exact H) | exact H
   have Ny132 := Aside0.mk hy132
   clear hy132
   by_cases c8 : x4_1.length + y132.length < 140737488355328
   rotate_left
   ·rw [if_neg c8] at H
    exact absurd H (by simp)
   rw [if_pos c8] at H
   have LMc8 := Aside0.mk c8
   clear c8
   obtain ⟨y135, hy135⟩ : ∃ Y : List Int, Y = (x4_1 ++ y132) := ⟨_, rfl⟩
   replace H : ((insn_low.f k1 y135 ((rd_T40 l0 x13_1).f3) 2).bind fun t138 => ((insn_low.f k1 t138 ((rd_T40 l0 x13_1).f4) 4).bind fun t141 => ((insn_Size.f ((rd_T40 l0 x13_1).f0) ((rd_T40 l0 x13_1).f1) ((rd_T40 l0 x13_1).f2) ((rd_T40 l0 x13_1).f3) ((rd_T40 l0 x13_1).f4)).bind fun t144 => (if t144 = 2 then ((insn_low.f k1 t141 0 4).bind fun t145 => ((insn_low.f k1 t145 (((rd_T40 l0 x13_1).f4) / 4294967296) 4).bind fun t148 => (insn_Put.l0 k1 t148 l0 (l0.length : Int) (wrap64 (x13_1 + 1))))) else (insn_Put.l0 k1 t141 l0 (l0.length : Int) (wrap64 (x13_1 + 1))))))) = some (r1, r2) := by first | (rw [hy135]; with_reducible exact H) | (have H2_ := (Option.bind_some _ _).symm.trans H; rw [hy135]; with_reducible exact H2_) | (have H2_ := (Option.bind_some _ _).symm.trans H; with_reducible exact H2_) | with_reducible exact H | (rw [hy135]; exact H) | exact H
   have Ny135 := Aside0.mk hy135
   clear hy135
   replace H := Option.bind_eq_some_iff.mp H
   obtain ⟨t138, A90, H⟩ := H
   (try dsimp only at H)
   have A9 := Aside0.mk A90
   clear A90
   replace H := Option.bind_eq_some_iff.mp H
   obtain ⟨t141, A100, H⟩ := H
   (try dsimp only at H)
   have A10 := Aside0.mk A100
   clear A100
   replace H := Option.bind_eq_some_iff.mp H
   obtain ⟨t144, A110, H⟩ := H
   (try dsimp only at H)
   have A11 := Aside0.mk A110
   clear A110
   by_cases c12 : t144 = 2
   rotate_left
   ·rw [if_neg c12] at H
    have c12b0 : (t144 == 2) = false := beq_eq_false_iff_ne.mpr c12
    have c12b1 : (t144 != 2) = true := bne_iff_ne.mpr c12
    have H' := Aside0.mk H
    clear H
    have p129 : 0 ≤ (x13_1 : Int) := of_decide_eq_true as_
    have q129 : x13_1 < (l0.length : Int) := of_decide_eq_true as_
    obtain ⟨ad129, e129, hx129_0, hx129_1, hx129_2, hx129_3, hx129_4⟩ := at_T40 HR0.out x13_1 p129 q129
    cases e129
    replace hx129_0 := (hc_ HB hx129_0 :)
    replace hx129_1 := (hc_ HB hx129_1 :)
    replace hx129_2 := (hc_ HB hx129_2 :)
    replace hx129_3 := (hc_ HB hx129_3 :)
    replace hx129_4 := (hc_ HB hx129_4 :)
    replace p129 := eq_true p129
    replace q129 := eq_true q129
    try go_wp2_with (first | ((with_reducible refine gate_dst (N := 6) rfl ?_); refine bx_ 6 #[.int .i64 0, .int .i64 0, .int .i64 0, .int .i64 0, .int .i64 0] 40 ?_; intro gb130 hg w34 BK130 hb; have GW130 := bg_ hg; have GE130 := GW130; replace HO_4 := Aside0.mk (Kd.R_below (ra_ HO_4.out) hb); replace HB := bl_ hb; clear hb hg; obtain ⟨zc35_0, zc35_1, zc35_2, zc35_3, zc35_4, zf35_0, zf35_1, zf35_2, zf35_3, zf35_4⟩ := k5_ BK130) | ((with_reducible refine gate_callee (f := 25) rfl ?_); refine gM_ 18 Try.func25 (insn_Check.calls k1 ((rd_T40 l0 x13_1).f0) ((rd_T40 l0 x13_1).f1) ((rd_T40 l0 x13_1).f2) ((rd_T40 l0 x13_1).f3) ((rd_T40 l0 x13_1).f4) t131 _ A6.out) ?_; intro w36 hb; have n0_ := Aside0.mk (Kd.R_below (by (with_reducible repeat (first | apply Kd.R_alloc | apply Kd.R_drewN | apply Kd.R_drew)); exact (Kd.R_mono (Kd.R_far (p := ⟨gb130, 4, none⟩) (Kd.R_far (p := ⟨gb130, 3, none⟩) (Kd.R_far (p := ⟨gb130, 2, none⟩) (Kd.R_far (p := ⟨gb130, 1, none⟩) (Kd.R_far (p := ⟨gb130, 0, none⟩) (Kd.R_types HO_4.out BK130.out (by decide)) (fun _ hk => hk.2) (.int .i64 ((rd_T40 l0 x13_1).f0))) (fun _ hk => hk.2) (.int .i64 ((rd_T40 l0 x13_1).f1))) (fun _ hk => hk.2) (.int .i64 ((rd_T40 l0 x13_1).f2))) (fun _ hk => hk.2) (.int .i64 ((rd_T40 l0 x13_1).f3))) (fun _ hk => hk.2) (.int .i64 ((rd_T40 l0 x13_1).f4))) (fun _ h_ => h_.1))) hb); have n1_ := Aside0.mk (blk_below (g := gb130) (o := .cells #[.int .i64 ((rd_T40 l0 x13_1).f0), .int .i64 ((rd_T40 l0 x13_1).f1), .int .i64 ((rd_T40 l0 x13_1).f2), .int .i64 ((rd_T40 l0 x13_1).f3), .int .i64 ((rd_T40 l0 x13_1).f4)] 40 (0, 0)) (by (with_reducible repeat (first | apply bN_ | apply bD_ | apply bA_)); refine blk_put (cs := #[.int .i64 ((rd_T40 l0 x13_1).f0), .int .i64 ((rd_T40 l0 x13_1).f1), .int .i64 ((rd_T40 l0 x13_1).f2), .int .i64 ((rd_T40 l0 x13_1).f3), .int .i64 0]) ?_ 4 _ rfl; (with_reducible repeat (first | apply bN_ | apply bD_ | apply bA_)); refine blk_put (cs := #[.int .i64 ((rd_T40 l0 x13_1).f0), .int .i64 ((rd_T40 l0 x13_1).f1), .int .i64 ((rd_T40 l0 x13_1).f2), .int .i64 0, .int .i64 0]) ?_ 3 _ rfl; (with_reducible repeat (first | apply bN_ | apply bD_ | apply bA_)); refine blk_put (cs := #[.int .i64 ((rd_T40 l0 x13_1).f0), .int .i64 ((rd_T40 l0 x13_1).f1), .int .i64 0, .int .i64 0, .int .i64 0]) ?_ 2 _ rfl; (with_reducible repeat (first | apply bN_ | apply bD_ | apply bA_)); refine blk_put (cs := #[.int .i64 ((rd_T40 l0 x13_1).f0), .int .i64 0, .int .i64 0, .int .i64 0, .int .i64 0]) ?_ 1 _ rfl; (with_reducible repeat (first | apply bN_ | apply bD_ | apply bA_)); refine blk_put (cs := #[.int .i64 0, .int .i64 0, .int .i64 0, .int .i64 0, .int .i64 0]) ?_ 0 _ rfl; exact bk_) hb); have n2_ := bl_ hb; clear HO_4; clear BK130; clear HB; have HO_4 := n0_; have BK130 := n1_; have HB := n2_; clear n0_ n1_ n2_; (try clear hb); (try clear hk); ))
    replace HO_4 := Aside0.mk (Kd.R_drew HO_4.out)
    replace BK130 := Aside0.mk (blk_drew BK130.out)
    replace HB := Aside0.mk (below_drew1 HB.out)
    refine start_ (n := 20) (S := fun w' => w'.cell? ⟨gb130, 0, none⟩ = some (.int .i64 ((rd_T40 l0 x13_1).f0)) ∧ w'.cell? ⟨gb130, 1, none⟩ = some (.int .i64 ((rd_T40 l0 x13_1).f1)) ∧ w'.cell? ⟨gb130, 2, none⟩ = some (.int .i64 ((rd_T40 l0 x13_1).f2)) ∧ w'.cell? ⟨gb130, 3, none⟩ = some (.int .i64 ((rd_T40 l0 x13_1).f3)) ∧ w'.cell? ⟨gb130, 4, none⟩ = some (.int .i64 ((rd_T40 l0 x13_1).f4))) (ds := []) #[Z,Z,Z,Z,Z,Z,Z,Z,Z,Z,Z,Z,Z,Z,Z,Z,Z,Z,Z,Z] (by kernel_rfl) rfl rfl ⟨c0_ BK130, c1_ BK130, c2_ BK130, c3_ BK130, c4_ BK130⟩ (fun hHeld => ?_); refine with_tabW insn_Put.tab10 insn_Put.bits10 (fun HT_ HW_ => ?_)
    generalize w36.drew = w37 at HO_4 BK130 HB hHeld ⊢
    refine pq_ 0 22 #[Y,Z,Z,Z,Z,Z,Z,Z,Z,Z,Z,Z,Z,Z,Z,Z,Z,Z,Z,Z] ?_
    refine pq_ 1 23 #[Y,Y,Z,Z,Z,Z,Z,Z,Z,Z,Z,Z,Z,Z,Z,Z,Z,Z,Z,Z] ?_
    refine pq_ 4 26 #[Y,Y,Z,Z,Y,Z,Z,Z,Z,Z,Z,Z,Z,Z,Z,Z,Z,Z,Z,Z] ?_
    refine pq_ 7 29 #[Y,Y,Z,Z,Y,Z,Z,Y,Z,Z,Z,Z,Z,Z,Z,Z,Z,Z,Z,Z] ?_
    refine pq_ 13 35 #[Y,Y,Z,Z,Y,Z,Z,Y,Z,Z,Z,Z,Z,Y,Z,Z,Z,Z,Z,Z] ?_
    refine pq_ 16 38 #[Y,Y,Z,Z,Y,Z,Z,Y,Z,Z,Z,Z,Z,Y,Z,Z,Y,Z,Z,Z] ?_
    refine tq0_ 2 24 #[Y,Y,Y,Z,Y,Z,Z,Y,Z,Z,Z,Z,Z,Y,Z,Z,Y,Z,Z,Z] hHeld ?_
    refine pq_ 3 25 #[Y,Y,Y,Y,Y,Z,Z,Y,Z,Z,Z,Z,Z,Y,Z,Z,Y,Z,Z,Z] ?_
    refine tq0_ 5 27 #[Y,Y,Y,Y,Y,Y,Z,Y,Z,Z,Z,Z,Z,Y,Z,Z,Y,Z,Z,Z] hHeld ?_
    refine pq_ 6 28 #[Y,Y,Y,Y,Y,Y,Y,Y,Z,Z,Z,Z,Z,Y,Z,Z,Y,Z,Z,Z] ?_
    refine tq0_ 8 30 #[Y,Y,Y,Y,Y,Y,Y,Y,Y,Z,Z,Z,Z,Y,Z,Z,Y,Z,Z,Z] hHeld ?_
    refine pq_ 9 31 #[Y,Y,Y,Y,Y,Y,Y,Y,Y,Y,Z,Z,Z,Y,Z,Z,Y,Z,Z,Z] ?_
    refine pq_ 10 32 #[Y,Y,Y,Y,Y,Y,Y,Y,Y,Y,Y,Z,Z,Y,Z,Z,Y,Z,Z,Z] ?_
    refine tq0_ 14 36 #[Y,Y,Y,Y,Y,Y,Y,Y,Y,Y,Y,Z,Z,Y,Y,Z,Y,Z,Z,Z] hHeld ?_
    refine tq0_ 17 39 #[Y,Y,Y,Y,Y,Y,Y,Y,Y,Y,Y,Z,Z,Y,Y,Z,Y,Y,Z,Z] hHeld ?_
    refine one_ (i := 11) (N := some 33) #[Y,Y,Y,Y,Y,Y,Y,Y,Y,Y,Y,Y,Z,Y,Y,Z,Y,Y,Z,Z] rfl rfl (one_of HT_.out (by kernel_rfl)) (by decide) (fun K hK => ?_)
    refine Kd.R_lit_step (Kd.int .u8) _ 5 ?hg (N := 33) ?hd (xs := ([((rd_T40 l0 x13_1).f0) % 256, (Go.bits .or .i64 (wrap64 (((rd_T40 l0 x13_1).f2) * 16)) ((rd_T40 l0 x13_1).f1)) % 256] : List Int)) (inner := [.int .u8 (((rd_T40 l0 x13_1).f0) % 256), .int .u8 ((Go.bits .or .i64 (wrap64 (((rd_T40 l0 x13_1).f2) * 16)) ((rd_T40 l0 x13_1).f1)) % 256)]) (ok := fun _ => True) (okp := fun _ => True) ?hr ?hp (fun _ hk => hk) trivial (Below.refl _ _) (Nat.le_refl _) (by simp) ?_; (case hd => rfl); (case hg => rfl); (case hr => first | (go_simp; done) | (go_simp; rfl)); (case hp => exact (Reps.one (show Kd.M (Kd.int .u8) _ _ _ (((rd_T40 l0 x13_1).f0) % 256) [.int .u8 (((rd_T40 l0 x13_1).f0) % 256)] from rfl) (Reps.one (show Kd.M (Kd.int .u8) _ _ _ ((Go.bits .or .i64 (wrap64 (((rd_T40 l0 x13_1).f2) * 16)) ((rd_T40 l0 x13_1).f1)) % 256) [.int .u8 ((Go.bits .or .i64 (wrap64 (((rd_T40 l0 x13_1).f2) * 16)) ((rd_T40 l0 x13_1).f1)) % 256)] from rfl) (Reps.none _ _))))
    intro v133 w38 ho39 hb hg_ hnew_
    clear hg_ hnew_
    (first | rw [← Ny132.out] at ho39 | (simp only [Int.reduceToNat] at ho39; rw [← Ny132.out] at ho39))
    have HO134 := Aside0.mk (Kd.R_lower (Kd.R_new' ho39 (Kd.R_lt (ra_ HO_4.out))) (below_size bz_))
    replace HO_4 := Aside0.mk (Kd.R_elder' (ra_ HO_4.out) (Kd.R_base ho39) hb)
    replace BK130 := bb_ hb BK130
    replace HB := bl_ hb
    clear hb ho39
    obtain ⟨Ao41, co41, eo41⟩ := Kd.R_slice HO134.out
    (first | subst eo41 | (injection eo41 with f1_ f2_ f3_; have f4_ := f1_.symm; have f5_ := f3_.symm; clear f1_ f2_ f3_; subst f4_; subst f5_))
    refine hK.out _ _ ⟨c0_ BK130, c1_ BK130, c2_ BK130, c3_ BK130, c4_ BK130⟩ (fun hHeld => ?_)
    clear hK K
    refine norm_ (a' := ?_) ?_ ?_
    rotate_left
    ·show Act.put _ (some 33) _ = _
     simp only [Act.put, s1_, s2_, s3_, i64_w, i32_w]
     rfl
    refine one_ (i := 12) (N := some 34) #[Y,Y,Y,Y,Y,Y,Y,Y,Y,Y,Y,Y,Y,Y,Y,Z,Y,Y,Z,Z] rfl rfl (one_of HT_.out (by kernel_rfl)) (by decide) (fun K hK => ?_)
    refine Kd.R_append_rows_step (Kd.int .u8) (w0 := w) w.heap.size (by rfl) (.tmp 22) (.tmp 33) 25 5 (.int .u8 0) 1 rfl Try.underlying25 info5 rfl (by decide) (by omega) u4 x4_1 y132 _ _ _ (fun k_ => some k_ ≠ (.slice Ao41 y132.length co41 : Value).ownBlock) (fun _ => False) rfl rfl ?aO ?aR (fun _ _ h => h) (fun _ h => h.elim) ?aF ?aB ?aS ?aL ?_
    (case aR => exact ca_ ((Kd.R_reads' HO134.out).2.2))
    (case aB => exact bz_)
    (case aF => exact (fun k_ hk => Kd.fresh' (Kd.R_lt (ra_ HO134.out)) k_ hk))
    (case aO => exact (ra_ (Kd.R_mono HO_4.out (fun _ hk => hk.2))))
    (case aS => exact (below_size bz_))
    (case aL => have := LMc8.out; omega)
    intro v136 w40 ho hb hg hat
    rw [← Ny135.out] at ho
    have n0_ := Aside0.mk (blk_grown (g := gb130) (o := .cells #[.int .i64 ((rd_T40 l0 x13_1).f0), .int .i64 ((rd_T40 l0 x13_1).f1), .int .i64 ((rd_T40 l0 x13_1).f2), .int .i64 ((rd_T40 l0 x13_1).f3), .int .i64 ((rd_T40 l0 x13_1).f4)] 40 (0, 0)) bk_ hg (Kd.R_ne HO_4.out BK130.out (by decide)))
    have n1_ := Aside0.mk (Kd.R_after (ok := (fun _ => True)) (ra_ HO134.out) hg hat)
    have n2_ := Aside0.mk (hb)
    have n3_ := Aside0.mk (ho)
    clear BK130
    clear HO134
    clear HB
    clear HO_4
    have BK130 := n0_
    have HO134 := n1_
    have HB := n2_
    have HO137 := n3_
    clear n0_ n1_ n2_ n3_
    clear ho hb hg hat
    obtain ⟨Ao42, co42, eo42⟩ := Kd.R_slice HO137.out
    (first | subst eo42 | (injection eo42 with f1_ f2_ f3_; have f4_ := f1_.symm; have f5_ := f3_.symm; clear f1_ f2_ f3_; subst f4_; subst f5_))
    refine hK.out _ _ ⟨c0_ BK130, c1_ BK130, c2_ BK130, c3_ BK130, c4_ BK130⟩ (fun hHeld => ?_)
    clear hK K
    refine norm_ (a' := ?_) ?_ ?_
    rotate_left
    ·show Act.put _ (some 34) _ = _
     simp only [Act.put, s1_, s2_, s3_, i64_w, i32_w]
     rfl
    refine one_ (i := 15) (N := some 37) #[Y,Y,Y,Y,Y,Y,Y,Y,Y,Y,Y,Y,Y,Y,Y,Y,Y,Y,Z,Z] rfl rfl (one_of HT_.out (by kernel_rfl)) (by decide) (fun K hK => ?_)
    refine goes_ Try.func33 (by kernel_rfl) rfl #[.slice Ao42 y135.length co42, .int .i64 ((rd_T40 l0 x13_1).f3), .int .i64 2] (by rfl) rfl rfl mp_ ?_
    with_reducible refine (insn_low.calls k1 (fun k_ => some k_ = (.slice Ao42 y135.length co42 : Value).ownBlock) (.slice Ao42 y135.length co42) y135 ((rd_T40 l0 x13_1).f3) 2 t138 w _ ?side1 ?side2 A9.out).mono ?_
    (case side1 => repeat (first | (with_reducible first | exact HB.out | apply lA_ | apply lN_ | apply lD_ | refine lS_ ?_ GE130.out) | exact HB.out))
    (case side2 => exact Kd.R_tight rfl HO137.out)
    rintro e w43 ⟨v139, rfl, ho0, hb, hkp⟩
    refine ⟨_, rfl, ?_⟩
    have n0_ := Aside0.mk (blk_kept bk_ hkp (fun hs_ => (fun e_ => (Kd.R_ne HO137.out BK130.out (by decide)) e_) hs_))
    have n1_ := Aside0.mk (Kd.R_mono (ok' := fun k_ => some k_ ≠ (v139 : Value).ownBlock) (Kd.R_keptB (HO134.out) hkp (fun k_ hk_ hs_ => (hk_.2) hs_)) (fun k_ hk_ => fun e_ => Or.elim (ho0.1 k_ e_.symm) (fun hs_ => hk_.2.1 hs_) (fun hn_ => Nat.not_le.2 hk_.2.2 hn_)))
    have n2_ := Aside0.mk (Kd.R_mono (ok' := fun k_ => some k_ ≠ (.slice Ao41 y132.length co41 : Value).ownBlock) ho0 (fun k_ hk_ => Or.elim hk_ (fun hs_ => fun e_ => (((HO134.out).1 k_ e_.symm).2) hs_) (fun hn_ => (Kd.fresh' (Kd.R_lt (ra_ HO134.out)) k_ hn_))))
    have n3_ := Aside0.mk (hb)
    clear BK130
    clear HO134
    clear HB
    clear HO137
    have BK130 := n0_
    have HO134 := n1_
    have HO140 := n2_
    have HB := n3_
    clear n0_ n1_ n2_ n3_
    (try clear hb)
    (try clear hkp)
    (try clear ho0)
    obtain ⟨Ao44, co44, eo44⟩ := Kd.R_slice HO140.out
    (first | subst eo44 | (injection eo44 with f1_ f2_ f3_; have f4_ := f1_.symm; have f5_ := f3_.symm; clear f1_ f2_ f3_; subst f4_; subst f5_))
    refine hK.out _ _ ⟨c0_ BK130, c1_ BK130, c2_ BK130, c3_ BK130, c4_ BK130⟩ (fun hHeld => ?_)
    clear hK K
    refine norm_ (a' := ?_) ?_ ?_
    rotate_left
    ·show Act.put _ (some 37) _ = _
     simp only [Act.put, s1_, s2_, s3_, i64_w, i32_w]
     rfl
    refine one_ (i := 18) (N := some 40) #[Y,Y,Y,Y,Y,Y,Y,Y,Y,Y,Y,Y,Y,Y,Y,Y,Y,Y,Y,Z] rfl rfl (one_of HT_.out (by kernel_rfl)) (by decide) (fun K hK => ?_)
    refine goes_ Try.func33 (by kernel_rfl) rfl #[.slice Ao44 t138.length co44, .int .i64 ((rd_T40 l0 x13_1).f4), .int .i64 4] (by rfl) rfl rfl mp_ ?_
    with_reducible refine (insn_low.calls k1 (fun k_ => some k_ = (.slice Ao44 t138.length co44 : Value).ownBlock) (.slice Ao44 t138.length co44) t138 ((rd_T40 l0 x13_1).f4) 4 t141 w _ ?side1 ?side2 A10.out).mono ?_
    (case side1 => repeat (first | (with_reducible first | exact HB.out | apply lA_ | apply lN_ | apply lD_ | refine lS_ ?_ GE130.out) | exact HB.out))
    (case side2 => exact Kd.R_tight rfl HO140.out)
    rintro e w45 ⟨v142, rfl, ho0, hb, hkp⟩
    refine ⟨_, rfl, ?_⟩
    have n0_ := Aside0.mk (blk_kept bk_ hkp (fun hs_ => (fun e_ => (Kd.R_ne HO140.out BK130.out (by decide)) e_) hs_))
    have n1_ := Aside0.mk (Kd.R_mono (ok' := fun k_ => some k_ ≠ (v142 : Value).ownBlock) (Kd.R_keptB (HO134.out) hkp (fun k_ hk_ hs_ => (hk_) hs_)) (fun k_ hk_ => fun e_ => Or.elim (ho0.1 k_ e_.symm) (fun hs_ => hk_.2.1 hs_) (fun hn_ => Nat.not_le.2 hk_.2.2 hn_)))
    have n2_ := Aside0.mk (Kd.R_mono (ok' := fun k_ => some k_ ≠ (.slice Ao41 y132.length co41 : Value).ownBlock) ho0 (fun k_ hk_ => Or.elim hk_ (fun hs_ => fun e_ => (((HO134.out).1 k_ e_.symm)) hs_) (fun hn_ => (Kd.fresh' (Kd.R_lt (ra_ HO134.out)) k_ hn_))))
    have n3_ := Aside0.mk (hb)
    clear BK130
    clear HO134
    clear HB
    clear HO140
    have BK130 := n0_
    have HO134 := n1_
    have HO143 := n2_
    have HB := n3_
    clear n0_ n1_ n2_ n3_
    (try clear hb)
    (try clear hkp)
    (try clear ho0)
    refine hK.out _ _ ⟨c0_ BK130, c1_ BK130, c2_ BK130, c3_ BK130, c4_ BK130⟩ (fun hHeld => ?_)
    clear hK K
    refine norm_ (a' := ?_) ?_ ?_
    rotate_left
    ·show Act.put _ (some 40) _ = _
     simp only [Act.put, s1_, s2_, s3_, i64_w, i32_w]
     rfl
    refine pq_ 19 4 #[Y,Y,Y,Y,Y,Y,Y,Y,Y,Y,Y,Y,Y,Y,Y,Y,Y,Y,Y,Y] ?_
    refine done_ (done_of HT_.out (by kernel_rfl)) ?_
    obtain ⟨zc46_0, zc46_1, zc46_2, zc46_3, zc46_4, zf46_0, zf46_1, zf46_2, zf46_3, zf46_4⟩ := k5_ BK130
    try go_wp2_with (first | ((with_reducible refine gate_callee (f := 24) rfl ?_); refine gM_ 42 Try.func24 (insn_Size.calls ((rd_T40 l0 x13_1).f0) ((rd_T40 l0 x13_1).f1) ((rd_T40 l0 x13_1).f2) ((rd_T40 l0 x13_1).f3) ((rd_T40 l0 x13_1).f4) t144 _ A11.out) ?_; intro w47 hb; replace HO134 := Aside0.mk (Kd.R_below (ra_ HO134.out) hb); replace HO143 := Aside0.mk (Kd.R_below (ra_ HO143.out) hb); replace BK130 := bb_ hb BK130; replace HB := bl_ hb; (try clear hb); (try clear hk); ))
    go_roundg k1
    case measure => have := HK1.out; omega
    case rel => exact ⟨(t141), (wrap64 (x13_1 + 1)), vs_, H', ⟨by have := HK1.out; omega⟩, ⟨by (with_reducible repeat (first | apply Kd.R_alloc | apply Kd.R_drewN | apply Kd.R_drew)); exact Kd.R_mono HO143.out (fun _ hk => trivial)⟩, ⟨bz_⟩⟩
   rw [if_pos c12] at H
   have c12b0 : (t144 == 2) = true := beq_iff_eq.mpr c12
   have c12b1 : (t144 != 2) = false := bne_eq_false_iff_eq.mpr c12
   clear c12
   replace H := Option.bind_eq_some_iff.mp H
   obtain ⟨t145, A130, H⟩ := H
   (try dsimp only at H)
   have A13 := Aside0.mk A130
   clear A130
   replace H := Option.bind_eq_some_iff.mp H
   obtain ⟨t148, A140, H⟩ := H
   (try dsimp only at H)
   have A14 := Aside0.mk A140
   clear A140
   have H' := Aside0.mk H
   clear H
   have p129 : 0 ≤ (x13_1 : Int) := of_decide_eq_true as_
   have q129 : x13_1 < (l0.length : Int) := of_decide_eq_true as_
   obtain ⟨ad129, e129, hx129_0, hx129_1, hx129_2, hx129_3, hx129_4⟩ := at_T40 HR0.out x13_1 p129 q129
   cases e129
   replace hx129_0 := (hc_ HB hx129_0 :)
   replace hx129_1 := (hc_ HB hx129_1 :)
   replace hx129_2 := (hc_ HB hx129_2 :)
   replace hx129_3 := (hc_ HB hx129_3 :)
   replace hx129_4 := (hc_ HB hx129_4 :)
   replace p129 := eq_true p129
   replace q129 := eq_true q129
   try go_wp2_with (first | ((with_reducible refine gate_dst (N := 6) rfl ?_); refine bx_ 6 #[.int .i64 0, .int .i64 0, .int .i64 0, .int .i64 0, .int .i64 0] 40 ?_; intro gb130 hg w15 BK130 hb; have GW130 := bg_ hg; have GE130 := GW130; replace HO_4 := Aside0.mk (Kd.R_below (ra_ HO_4.out) hb); replace HB := bl_ hb; clear hb hg; obtain ⟨zc16_0, zc16_1, zc16_2, zc16_3, zc16_4, zf16_0, zf16_1, zf16_2, zf16_3, zf16_4⟩ := k5_ BK130) | ((with_reducible refine gate_callee (f := 25) rfl ?_); refine gM_ 18 Try.func25 (insn_Check.calls k1 ((rd_T40 l0 x13_1).f0) ((rd_T40 l0 x13_1).f1) ((rd_T40 l0 x13_1).f2) ((rd_T40 l0 x13_1).f3) ((rd_T40 l0 x13_1).f4) t131 _ A6.out) ?_; intro w17 hb; have n0_ := Aside0.mk (Kd.R_below (by (with_reducible repeat (first | apply Kd.R_alloc | apply Kd.R_drewN | apply Kd.R_drew)); exact (Kd.R_mono (Kd.R_far (p := ⟨gb130, 4, none⟩) (Kd.R_far (p := ⟨gb130, 3, none⟩) (Kd.R_far (p := ⟨gb130, 2, none⟩) (Kd.R_far (p := ⟨gb130, 1, none⟩) (Kd.R_far (p := ⟨gb130, 0, none⟩) (Kd.R_types HO_4.out BK130.out (by decide)) (fun _ hk => hk.2) (.int .i64 ((rd_T40 l0 x13_1).f0))) (fun _ hk => hk.2) (.int .i64 ((rd_T40 l0 x13_1).f1))) (fun _ hk => hk.2) (.int .i64 ((rd_T40 l0 x13_1).f2))) (fun _ hk => hk.2) (.int .i64 ((rd_T40 l0 x13_1).f3))) (fun _ hk => hk.2) (.int .i64 ((rd_T40 l0 x13_1).f4))) (fun _ h_ => h_.1))) hb); have n1_ := Aside0.mk (blk_below (g := gb130) (o := .cells #[.int .i64 ((rd_T40 l0 x13_1).f0), .int .i64 ((rd_T40 l0 x13_1).f1), .int .i64 ((rd_T40 l0 x13_1).f2), .int .i64 ((rd_T40 l0 x13_1).f3), .int .i64 ((rd_T40 l0 x13_1).f4)] 40 (0, 0)) (by (with_reducible repeat (first | apply bN_ | apply bD_ | apply bA_)); refine blk_put (cs := #[.int .i64 ((rd_T40 l0 x13_1).f0), .int .i64 ((rd_T40 l0 x13_1).f1), .int .i64 ((rd_T40 l0 x13_1).f2), .int .i64 ((rd_T40 l0 x13_1).f3), .int .i64 0]) ?_ 4 _ rfl; (with_reducible repeat (first | apply bN_ | apply bD_ | apply bA_)); refine blk_put (cs := #[.int .i64 ((rd_T40 l0 x13_1).f0), .int .i64 ((rd_T40 l0 x13_1).f1), .int .i64 ((rd_T40 l0 x13_1).f2), .int .i64 0, .int .i64 0]) ?_ 3 _ rfl; (with_reducible repeat (first | apply bN_ | apply bD_ | apply bA_)); refine blk_put (cs := #[.int .i64 ((rd_T40 l0 x13_1).f0), .int .i64 ((rd_T40 l0 x13_1).f1), .int .i64 0, .int .i64 0, .int .i64 0]) ?_ 2 _ rfl; (with_reducible repeat (first | apply bN_ | apply bD_ | apply bA_)); refine blk_put (cs := #[.int .i64 ((rd_T40 l0 x13_1).f0), .int .i64 0, .int .i64 0, .int .i64 0, .int .i64 0]) ?_ 1 _ rfl; (with_reducible repeat (first | apply bN_ | apply bD_ | apply bA_)); refine blk_put (cs := #[.int .i64 0, .int .i64 0, .int .i64 0, .int .i64 0, .int .i64 0]) ?_ 0 _ rfl; exact bk_) hb); have n2_ := bl_ hb; clear HO_4; clear BK130; clear HB; have HO_4 := n0_; have BK130 := n1_; have HB := n2_; clear n0_ n1_ n2_; (try clear hb); (try clear hk); ))
   replace HO_4 := Aside0.mk (Kd.R_drew HO_4.out)
   replace BK130 := Aside0.mk (blk_drew BK130.out)
   replace HB := Aside0.mk (below_drew1 HB.out)
   refine start_ (n := 20) (S := fun w' => w'.cell? ⟨gb130, 0, none⟩ = some (.int .i64 ((rd_T40 l0 x13_1).f0)) ∧ w'.cell? ⟨gb130, 1, none⟩ = some (.int .i64 ((rd_T40 l0 x13_1).f1)) ∧ w'.cell? ⟨gb130, 2, none⟩ = some (.int .i64 ((rd_T40 l0 x13_1).f2)) ∧ w'.cell? ⟨gb130, 3, none⟩ = some (.int .i64 ((rd_T40 l0 x13_1).f3)) ∧ w'.cell? ⟨gb130, 4, none⟩ = some (.int .i64 ((rd_T40 l0 x13_1).f4))) (ds := []) #[Z,Z,Z,Z,Z,Z,Z,Z,Z,Z,Z,Z,Z,Z,Z,Z,Z,Z,Z,Z] (by kernel_rfl) rfl rfl ⟨c0_ BK130, c1_ BK130, c2_ BK130, c3_ BK130, c4_ BK130⟩ (fun hHeld => ?_); refine with_tabW insn_Put.tab10 insn_Put.bits10 (fun HT_ HW_ => ?_)
   generalize w17.drew = w18 at HO_4 BK130 HB hHeld ⊢
   refine pq_ 0 22 #[Y,Z,Z,Z,Z,Z,Z,Z,Z,Z,Z,Z,Z,Z,Z,Z,Z,Z,Z,Z] ?_
   refine pq_ 1 23 #[Y,Y,Z,Z,Z,Z,Z,Z,Z,Z,Z,Z,Z,Z,Z,Z,Z,Z,Z,Z] ?_
   refine pq_ 4 26 #[Y,Y,Z,Z,Y,Z,Z,Z,Z,Z,Z,Z,Z,Z,Z,Z,Z,Z,Z,Z] ?_
   refine pq_ 7 29 #[Y,Y,Z,Z,Y,Z,Z,Y,Z,Z,Z,Z,Z,Z,Z,Z,Z,Z,Z,Z] ?_
   refine pq_ 13 35 #[Y,Y,Z,Z,Y,Z,Z,Y,Z,Z,Z,Z,Z,Y,Z,Z,Z,Z,Z,Z] ?_
   refine pq_ 16 38 #[Y,Y,Z,Z,Y,Z,Z,Y,Z,Z,Z,Z,Z,Y,Z,Z,Y,Z,Z,Z] ?_
   refine tq0_ 2 24 #[Y,Y,Y,Z,Y,Z,Z,Y,Z,Z,Z,Z,Z,Y,Z,Z,Y,Z,Z,Z] hHeld ?_
   refine pq_ 3 25 #[Y,Y,Y,Y,Y,Z,Z,Y,Z,Z,Z,Z,Z,Y,Z,Z,Y,Z,Z,Z] ?_
   refine tq0_ 5 27 #[Y,Y,Y,Y,Y,Y,Z,Y,Z,Z,Z,Z,Z,Y,Z,Z,Y,Z,Z,Z] hHeld ?_
   refine pq_ 6 28 #[Y,Y,Y,Y,Y,Y,Y,Y,Z,Z,Z,Z,Z,Y,Z,Z,Y,Z,Z,Z] ?_
   refine tq0_ 8 30 #[Y,Y,Y,Y,Y,Y,Y,Y,Y,Z,Z,Z,Z,Y,Z,Z,Y,Z,Z,Z] hHeld ?_
   refine pq_ 9 31 #[Y,Y,Y,Y,Y,Y,Y,Y,Y,Y,Z,Z,Z,Y,Z,Z,Y,Z,Z,Z] ?_
   refine pq_ 10 32 #[Y,Y,Y,Y,Y,Y,Y,Y,Y,Y,Y,Z,Z,Y,Z,Z,Y,Z,Z,Z] ?_
   refine tq0_ 14 36 #[Y,Y,Y,Y,Y,Y,Y,Y,Y,Y,Y,Z,Z,Y,Y,Z,Y,Z,Z,Z] hHeld ?_
   refine tq0_ 17 39 #[Y,Y,Y,Y,Y,Y,Y,Y,Y,Y,Y,Z,Z,Y,Y,Z,Y,Y,Z,Z] hHeld ?_
   refine one_ (i := 11) (N := some 33) #[Y,Y,Y,Y,Y,Y,Y,Y,Y,Y,Y,Y,Z,Y,Y,Z,Y,Y,Z,Z] rfl rfl (one_of HT_.out (by kernel_rfl)) (by decide) (fun K hK => ?_)
   refine Kd.R_lit_step (Kd.int .u8) _ 5 ?hg (N := 33) ?hd (xs := ([((rd_T40 l0 x13_1).f0) % 256, (Go.bits .or .i64 (wrap64 (((rd_T40 l0 x13_1).f2) * 16)) ((rd_T40 l0 x13_1).f1)) % 256] : List Int)) (inner := [.int .u8 (((rd_T40 l0 x13_1).f0) % 256), .int .u8 ((Go.bits .or .i64 (wrap64 (((rd_T40 l0 x13_1).f2) * 16)) ((rd_T40 l0 x13_1).f1)) % 256)]) (ok := fun _ => True) (okp := fun _ => True) ?hr ?hp (fun _ hk => hk) trivial (Below.refl _ _) (Nat.le_refl _) (by simp) ?_; (case hd => rfl); (case hg => rfl); (case hr => first | (go_simp; done) | (go_simp; rfl)); (case hp => exact (Reps.one (show Kd.M (Kd.int .u8) _ _ _ (((rd_T40 l0 x13_1).f0) % 256) [.int .u8 (((rd_T40 l0 x13_1).f0) % 256)] from rfl) (Reps.one (show Kd.M (Kd.int .u8) _ _ _ ((Go.bits .or .i64 (wrap64 (((rd_T40 l0 x13_1).f2) * 16)) ((rd_T40 l0 x13_1).f1)) % 256) [.int .u8 ((Go.bits .or .i64 (wrap64 (((rd_T40 l0 x13_1).f2) * 16)) ((rd_T40 l0 x13_1).f1)) % 256)] from rfl) (Reps.none _ _))))
   intro v133 w19 ho20 hb hg_ hnew_
   clear hg_ hnew_
   (first | rw [← Ny132.out] at ho20 | (simp only [Int.reduceToNat] at ho20; rw [← Ny132.out] at ho20))
   have HO134 := Aside0.mk (Kd.R_lower (Kd.R_new' ho20 (Kd.R_lt (ra_ HO_4.out))) (below_size bz_))
   replace HO_4 := Aside0.mk (Kd.R_elder' (ra_ HO_4.out) (Kd.R_base ho20) hb)
   replace BK130 := bb_ hb BK130
   replace HB := bl_ hb
   clear hb ho20
   obtain ⟨Ao22, co22, eo22⟩ := Kd.R_slice HO134.out
   (first | subst eo22 | (injection eo22 with f1_ f2_ f3_; have f4_ := f1_.symm; have f5_ := f3_.symm; clear f1_ f2_ f3_; subst f4_; subst f5_))
   refine hK.out _ _ ⟨c0_ BK130, c1_ BK130, c2_ BK130, c3_ BK130, c4_ BK130⟩ (fun hHeld => ?_)
   clear hK K
   refine norm_ (a' := ?_) ?_ ?_
   rotate_left
   ·show Act.put _ (some 33) _ = _
    simp only [Act.put, s1_, s2_, s3_, i64_w, i32_w]
    rfl
   refine one_ (i := 12) (N := some 34) #[Y,Y,Y,Y,Y,Y,Y,Y,Y,Y,Y,Y,Y,Y,Y,Z,Y,Y,Z,Z] rfl rfl (one_of HT_.out (by kernel_rfl)) (by decide) (fun K hK => ?_)
   refine Kd.R_append_rows_step (Kd.int .u8) (w0 := w) w.heap.size (by rfl) (.tmp 22) (.tmp 33) 25 5 (.int .u8 0) 1 rfl Try.underlying25 info5 rfl (by decide) (by omega) u4 x4_1 y132 _ _ _ (fun k_ => some k_ ≠ (.slice Ao22 y132.length co22 : Value).ownBlock) (fun _ => False) rfl rfl ?aO ?aR (fun _ _ h => h) (fun _ h => h.elim) ?aF ?aB ?aS ?aL ?_
   (case aR => exact ca_ ((Kd.R_reads' HO134.out).2.2))
   (case aB => exact bz_)
   (case aF => exact (fun k_ hk => Kd.fresh' (Kd.R_lt (ra_ HO134.out)) k_ hk))
   (case aO => exact (ra_ (Kd.R_mono HO_4.out (fun _ hk => hk.2))))
   (case aS => exact (below_size bz_))
   (case aL => have := LMc8.out; omega)
   intro v136 w21 ho hb hg hat
   rw [← Ny135.out] at ho
   have n0_ := Aside0.mk (blk_grown (g := gb130) (o := .cells #[.int .i64 ((rd_T40 l0 x13_1).f0), .int .i64 ((rd_T40 l0 x13_1).f1), .int .i64 ((rd_T40 l0 x13_1).f2), .int .i64 ((rd_T40 l0 x13_1).f3), .int .i64 ((rd_T40 l0 x13_1).f4)] 40 (0, 0)) bk_ hg (Kd.R_ne HO_4.out BK130.out (by decide)))
   have n1_ := Aside0.mk (Kd.R_after (ok := (fun _ => True)) (ra_ HO134.out) hg hat)
   have n2_ := Aside0.mk (hb)
   have n3_ := Aside0.mk (ho)
   clear BK130
   clear HO134
   clear HB
   clear HO_4
   have BK130 := n0_
   have HO134 := n1_
   have HB := n2_
   have HO137 := n3_
   clear n0_ n1_ n2_ n3_
   clear ho hb hg hat
   obtain ⟨Ao23, co23, eo23⟩ := Kd.R_slice HO137.out
   (first | subst eo23 | (injection eo23 with f1_ f2_ f3_; have f4_ := f1_.symm; have f5_ := f3_.symm; clear f1_ f2_ f3_; subst f4_; subst f5_))
   refine hK.out _ _ ⟨c0_ BK130, c1_ BK130, c2_ BK130, c3_ BK130, c4_ BK130⟩ (fun hHeld => ?_)
   clear hK K
   refine norm_ (a' := ?_) ?_ ?_
   rotate_left
   ·show Act.put _ (some 34) _ = _
    simp only [Act.put, s1_, s2_, s3_, i64_w, i32_w]
    rfl
   refine one_ (i := 15) (N := some 37) #[Y,Y,Y,Y,Y,Y,Y,Y,Y,Y,Y,Y,Y,Y,Y,Y,Y,Y,Z,Z] rfl rfl (one_of HT_.out (by kernel_rfl)) (by decide) (fun K hK => ?_)
   refine goes_ Try.func33 (by kernel_rfl) rfl #[.slice Ao23 y135.length co23, .int .i64 ((rd_T40 l0 x13_1).f3), .int .i64 2] (by rfl) rfl rfl mp_ ?_
   with_reducible refine (insn_low.calls k1 (fun k_ => some k_ = (.slice Ao23 y135.length co23 : Value).ownBlock) (.slice Ao23 y135.length co23) y135 ((rd_T40 l0 x13_1).f3) 2 t138 w _ ?side1 ?side2 A9.out).mono ?_
   (case side1 => repeat (first | (with_reducible first | exact HB.out | apply lA_ | apply lN_ | apply lD_ | refine lS_ ?_ GE130.out) | exact HB.out))
   (case side2 => exact Kd.R_tight rfl HO137.out)
   rintro e w24 ⟨v139, rfl, ho0, hb, hkp⟩
   refine ⟨_, rfl, ?_⟩
   have n0_ := Aside0.mk (blk_kept bk_ hkp (fun hs_ => (fun e_ => (Kd.R_ne HO137.out BK130.out (by decide)) e_) hs_))
   have n1_ := Aside0.mk (Kd.R_mono (ok' := fun k_ => some k_ ≠ (v139 : Value).ownBlock) (Kd.R_keptB (HO134.out) hkp (fun k_ hk_ hs_ => (hk_.2) hs_)) (fun k_ hk_ => fun e_ => Or.elim (ho0.1 k_ e_.symm) (fun hs_ => hk_.2.1 hs_) (fun hn_ => Nat.not_le.2 hk_.2.2 hn_)))
   have n2_ := Aside0.mk (Kd.R_mono (ok' := fun k_ => some k_ ≠ (.slice Ao22 y132.length co22 : Value).ownBlock) ho0 (fun k_ hk_ => Or.elim hk_ (fun hs_ => fun e_ => (((HO134.out).1 k_ e_.symm).2) hs_) (fun hn_ => (Kd.fresh' (Kd.R_lt (ra_ HO134.out)) k_ hn_))))
   have n3_ := Aside0.mk (hb)
   clear BK130
   clear HO134
   clear HB
   clear HO137
   have BK130 := n0_
   have HO134 := n1_
   have HO140 := n2_
   have HB := n3_
   clear n0_ n1_ n2_ n3_
   (try clear hb)
   (try clear hkp)
   (try clear ho0)
   obtain ⟨Ao25, co25, eo25⟩ := Kd.R_slice HO140.out
   (first | subst eo25 | (injection eo25 with f1_ f2_ f3_; have f4_ := f1_.symm; have f5_ := f3_.symm; clear f1_ f2_ f3_; subst f4_; subst f5_))
   refine hK.out _ _ ⟨c0_ BK130, c1_ BK130, c2_ BK130, c3_ BK130, c4_ BK130⟩ (fun hHeld => ?_)
   clear hK K
   refine norm_ (a' := ?_) ?_ ?_
   rotate_left
   ·show Act.put _ (some 37) _ = _
    simp only [Act.put, s1_, s2_, s3_, i64_w, i32_w]
    rfl
   refine one_ (i := 18) (N := some 40) #[Y,Y,Y,Y,Y,Y,Y,Y,Y,Y,Y,Y,Y,Y,Y,Y,Y,Y,Y,Z] rfl rfl (one_of HT_.out (by kernel_rfl)) (by decide) (fun K hK => ?_)
   refine goes_ Try.func33 (by kernel_rfl) rfl #[.slice Ao25 t138.length co25, .int .i64 ((rd_T40 l0 x13_1).f4), .int .i64 4] (by rfl) rfl rfl mp_ ?_
   with_reducible refine (insn_low.calls k1 (fun k_ => some k_ = (.slice Ao25 t138.length co25 : Value).ownBlock) (.slice Ao25 t138.length co25) t138 ((rd_T40 l0 x13_1).f4) 4 t141 w _ ?side1 ?side2 A10.out).mono ?_
   (case side1 => repeat (first | (with_reducible first | exact HB.out | apply lA_ | apply lN_ | apply lD_ | refine lS_ ?_ GE130.out) | exact HB.out))
   (case side2 => exact Kd.R_tight rfl HO140.out)
   rintro e w26 ⟨v142, rfl, ho0, hb, hkp⟩
   refine ⟨_, rfl, ?_⟩
   have n0_ := Aside0.mk (blk_kept bk_ hkp (fun hs_ => (fun e_ => (Kd.R_ne HO140.out BK130.out (by decide)) e_) hs_))
   have n1_ := Aside0.mk (Kd.R_mono (ok' := fun k_ => some k_ ≠ (v142 : Value).ownBlock) (Kd.R_keptB (HO134.out) hkp (fun k_ hk_ hs_ => (hk_) hs_)) (fun k_ hk_ => fun e_ => Or.elim (ho0.1 k_ e_.symm) (fun hs_ => hk_.2.1 hs_) (fun hn_ => Nat.not_le.2 hk_.2.2 hn_)))
   have n2_ := Aside0.mk (Kd.R_mono (ok' := fun k_ => some k_ ≠ (.slice Ao22 y132.length co22 : Value).ownBlock) ho0 (fun k_ hk_ => Or.elim hk_ (fun hs_ => fun e_ => (((HO134.out).1 k_ e_.symm)) hs_) (fun hn_ => (Kd.fresh' (Kd.R_lt (ra_ HO134.out)) k_ hn_))))
   have n3_ := Aside0.mk (hb)
   clear BK130
   clear HO134
   clear HB
   clear HO140
   have BK130 := n0_
   have HO134 := n1_
   have HO143 := n2_
   have HB := n3_
   clear n0_ n1_ n2_ n3_
   (try clear hb)
   (try clear hkp)
   (try clear ho0)
   refine hK.out _ _ ⟨c0_ BK130, c1_ BK130, c2_ BK130, c3_ BK130, c4_ BK130⟩ (fun hHeld => ?_)
   clear hK K
   refine norm_ (a' := ?_) ?_ ?_
   rotate_left
   ·show Act.put _ (some 40) _ = _
    simp only [Act.put, s1_, s2_, s3_, i64_w, i32_w]
    rfl
   refine pq_ 19 4 #[Y,Y,Y,Y,Y,Y,Y,Y,Y,Y,Y,Y,Y,Y,Y,Y,Y,Y,Y,Y] ?_
   refine done_ (done_of HT_.out (by kernel_rfl)) ?_
   obtain ⟨zc27_0, zc27_1, zc27_2, zc27_3, zc27_4, zf27_0, zf27_1, zf27_2, zf27_3, zf27_4⟩ := k5_ BK130
   try go_wp2_with (first | ((with_reducible refine gate_callee (f := 24) rfl ?_); refine gM_ 42 Try.func24 (insn_Size.calls ((rd_T40 l0 x13_1).f0) ((rd_T40 l0 x13_1).f1) ((rd_T40 l0 x13_1).f2) ((rd_T40 l0 x13_1).f3) ((rd_T40 l0 x13_1).f4) t144 _ A11.out) ?_; intro w28 hb; replace HO134 := Aside0.mk (Kd.R_below (ra_ HO134.out) hb); replace HO143 := Aside0.mk (Kd.R_below (ra_ HO143.out) hb); replace BK130 := bb_ hb BK130; replace HB := bl_ hb; (try clear hb); (try clear hk); ))
   replace HO134 := Aside0.mk (Kd.R_drew HO134.out)
   replace HO143 := Aside0.mk (Kd.R_drew HO143.out)
   replace BK130 := Aside0.mk (blk_drew BK130.out)
   replace HB := Aside0.mk (below_drew1 HB.out)
   obtain ⟨Ao30, co30, eo30⟩ := Kd.R_slice HO143.out
   (first | subst eo30 | (injection eo30 with f1_ f2_ f3_; have f4_ := f1_.symm; have f5_ := f3_.symm; clear f1_ f2_ f3_; subst f4_; subst f5_))
   refine start_ (n := 7) (S := fun w' => w'.cell? ⟨gb130, 0, none⟩ = some (.int .i64 ((rd_T40 l0 x13_1).f0)) ∧ w'.cell? ⟨gb130, 1, none⟩ = some (.int .i64 ((rd_T40 l0 x13_1).f1)) ∧ w'.cell? ⟨gb130, 2, none⟩ = some (.int .i64 ((rd_T40 l0 x13_1).f2)) ∧ w'.cell? ⟨gb130, 3, none⟩ = some (.int .i64 ((rd_T40 l0 x13_1).f3)) ∧ w'.cell? ⟨gb130, 4, none⟩ = some (.int .i64 ((rd_T40 l0 x13_1).f4))) (ds := []) #[Z,Z,Z,Z,Z,Z,Z] (by kernel_rfl) rfl rfl ⟨c0_ BK130, c1_ BK130, c2_ BK130, c3_ BK130, c4_ BK130⟩ (fun hHeld => ?_)
   generalize w28.drew = w29 at HO134 HO143 BK130 HB hHeld ⊢
   refine pure_ (i := 0) (N := some 44) (v := ?_) (a' := ?_) #[Y,Z,Z,Z,Z,Z,Z] rfl rfl (by kernel_rfl) (fun _ _ _ h => h) (Or.inl ⟨by rfl, ?_⟩) ?_ ?_
   rotate_left
   ·intro w'
    go_simp
    with_reducible rfl
   rotate_left
   ·simp only [Act.put, s1_, s2_, s3_, i64_w, i32_w]
    rfl
   refine pure_ (i := 2) (N := some 46) (v := ?_) (a' := ?_) #[Y,Z,Y,Z,Z,Z,Z] rfl rfl (by kernel_rfl) (fun _ _ _ h => h) (Or.inl ⟨by rfl, ?_⟩) ?_ ?_
   rotate_left
   ·intro w'
    go_simp
    with_reducible rfl
   rotate_left
   ·simp only [Act.put, s1_, s2_, s3_, i64_w, i32_w]
    rfl
   refine take_ (i := 3) (N := some 47) (v := ?_) (a' := ?_) #[Y,Z,Y,Y,Z,Z,Z] rfl rfl (by kernel_rfl) (fun _ _ _ h => h) (Or.inl ⟨by rfl, ?_⟩) hHeld ?_ ?_
   rotate_left
   ·rintro w' ⟨s0, s1, s2, s3, s4⟩
    go_simp
    with_reducible rfl
   rotate_left
   ·simp only [Act.put, s1_, s2_, s3_, i64_w, i32_w]
    rfl
   refine pure_ (i := 4) (N := some 48) (v := ?_) (a' := ?_) #[Y,Z,Y,Y,Y,Z,Z] rfl rfl (by kernel_rfl) (fun _ _ _ h => h) (Or.inl ⟨by rfl, ?_⟩) ?_ ?_
   rotate_left
   ·intro w'
    go_simp
    with_reducible rfl
   rotate_left
   ·simp only [Act.put, s1_, s2_, s3_, i64_w, i32_w]
    rfl
   refine one_ (i := 1) (N := some 45) #[Y,Y,Y,Y,Y,Z,Z] rfl rfl (by kernel_rfl) (by decide) (fun K hK => ?_)
   refine goes_ Try.func33 (by kernel_rfl) rfl #[.slice Ao30 t141.length co30, .int .i64 0, .int .i64 4] (by rfl) rfl rfl mp_ ?_
   with_reducible refine (insn_low.calls k1 (fun k_ => some k_ = (.slice Ao30 t141.length co30 : Value).ownBlock) (.slice Ao30 t141.length co30) t141 0 4 t145 w _ ?side1 ?side2 A13.out).mono ?_
   (case side1 => repeat (first | (with_reducible first | exact HB.out | apply lA_ | apply lN_ | apply lD_ | refine lS_ ?_ GE130.out) | exact HB.out))
   (case side2 => exact Kd.R_tight rfl HO143.out)
   rintro e w31 ⟨v146, rfl, ho0, hb, hkp⟩
   refine ⟨_, rfl, ?_⟩
   have n0_ := Aside0.mk (blk_kept bk_ hkp (fun hs_ => (fun e_ => (Kd.R_ne HO143.out BK130.out (by decide)) e_) hs_))
   have n1_ := Aside0.mk (Kd.R_mono (ok' := fun k_ => some k_ ≠ (v146 : Value).ownBlock) (Kd.R_keptB (HO134.out) hkp (fun k_ hk_ hs_ => (hk_) hs_)) (fun k_ hk_ => fun e_ => Or.elim (ho0.1 k_ e_.symm) (fun hs_ => hk_.2.1 hs_) (fun hn_ => Nat.not_le.2 hk_.2.2 hn_)))
   have n2_ := Aside0.mk (Kd.R_mono (ok' := fun k_ => some k_ ≠ (.slice Ao22 y132.length co22 : Value).ownBlock) ho0 (fun k_ hk_ => Or.elim hk_ (fun hs_ => fun e_ => (((HO134.out).1 k_ e_.symm)) hs_) (fun hn_ => (Kd.fresh' (Kd.R_lt (ra_ HO134.out)) k_ hn_))))
   have n3_ := Aside0.mk (hb)
   clear BK130
   clear HO134
   clear HB
   clear HO143
   have BK130 := n0_
   have HO134 := n1_
   have HO147 := n2_
   have HB := n3_
   clear n0_ n1_ n2_ n3_
   (try clear hb)
   (try clear hkp)
   (try clear ho0)
   obtain ⟨Ao32, co32, eo32⟩ := Kd.R_slice HO147.out
   (first | subst eo32 | (injection eo32 with f1_ f2_ f3_; have f4_ := f1_.symm; have f5_ := f3_.symm; clear f1_ f2_ f3_; subst f4_; subst f5_))
   refine hK.out _ _ ⟨c0_ BK130, c1_ BK130, c2_ BK130, c3_ BK130, c4_ BK130⟩ (fun hHeld => ?_)
   clear hK K
   refine norm_ (a' := ?_) ?_ ?_
   rotate_left
   ·show Act.put _ (some 45) _ = _
    simp only [Act.put, s1_, s2_, s3_, i64_w, i32_w]
    rfl
   refine one_ (i := 5) (N := some 49) #[Y,Y,Y,Y,Y,Y,Z] rfl rfl (by kernel_rfl) (by decide) (fun K hK => ?_)
   refine goes_ Try.func33 (by kernel_rfl) rfl #[.slice Ao32 t145.length co32, .int .i64 (((rd_T40 l0 x13_1).f4) / 4294967296), .int .i64 4] (by rfl) rfl rfl mp_ ?_
   with_reducible refine (insn_low.calls k1 (fun k_ => some k_ = (.slice Ao32 t145.length co32 : Value).ownBlock) (.slice Ao32 t145.length co32) t145 (((rd_T40 l0 x13_1).f4) / 4294967296) 4 t148 w _ ?side1 ?side2 A14.out).mono ?_
   (case side1 => repeat (first | (with_reducible first | exact HB.out | apply lA_ | apply lN_ | apply lD_ | refine lS_ ?_ GE130.out) | exact HB.out))
   (case side2 => exact Kd.R_tight rfl HO147.out)
   rintro e w33 ⟨v149, rfl, ho0, hb, hkp⟩
   refine ⟨_, rfl, ?_⟩
   have n0_ := Aside0.mk (blk_kept bk_ hkp (fun hs_ => (fun e_ => (Kd.R_ne HO147.out BK130.out (by decide)) e_) hs_))
   have n1_ := Aside0.mk (Kd.R_mono (ok' := fun k_ => some k_ ≠ (v149 : Value).ownBlock) (Kd.R_keptB (HO134.out) hkp (fun k_ hk_ hs_ => (hk_) hs_)) (fun k_ hk_ => fun e_ => Or.elim (ho0.1 k_ e_.symm) (fun hs_ => hk_.2.1 hs_) (fun hn_ => Nat.not_le.2 hk_.2.2 hn_)))
   have n2_ := Aside0.mk (Kd.R_mono (ok' := fun k_ => some k_ ≠ (.slice Ao22 y132.length co22 : Value).ownBlock) ho0 (fun k_ hk_ => Or.elim hk_ (fun hs_ => fun e_ => (((HO134.out).1 k_ e_.symm)) hs_) (fun hn_ => (Kd.fresh' (Kd.R_lt (ra_ HO134.out)) k_ hn_))))
   have n3_ := Aside0.mk (hb)
   clear BK130
   clear HO134
   clear HB
   clear HO147
   have BK130 := n0_
   have HO134 := n1_
   have HO150 := n2_
   have HB := n3_
   clear n0_ n1_ n2_ n3_
   (try clear hb)
   (try clear hkp)
   (try clear ho0)
   refine hK.out _ _ ⟨c0_ BK130, c1_ BK130, c2_ BK130, c3_ BK130, c4_ BK130⟩ (fun hHeld => ?_)
   clear hK K
   refine norm_ (a' := ?_) ?_ ?_
   rotate_left
   ·show Act.put _ (some 49) _ = _
    simp only [Act.put, s1_, s2_, s3_, i64_w, i32_w]
    rfl
   refine pure_ (i := 6) (N := some 4) (v := ?_) (a' := ?_) #[Y,Y,Y,Y,Y,Y,Y] rfl rfl (by kernel_rfl) (fun _ _ _ h => h) (Or.inl ⟨by rfl, ?_⟩) ?_ ?_
   rotate_left
   ·intro w'
    go_simp
    with_reducible rfl
   rotate_left
   ·simp only [Act.put, s1_, s2_, s3_, i64_w, i32_w]
    rfl
   refine done_ (by kernel_rfl) ?_
   try go_wp2
   go_roundg k1
   case measure => have := HK1.out; omega
   case rel => exact ⟨(t148), (wrap64 (x13_1 + 1)), vs_, H', ⟨by have := HK1.out; omega⟩, ⟨by (with_reducible repeat (first | apply Kd.R_alloc | apply Kd.R_drewN | apply Kd.R_drew)); exact Kd.R_mono HO150.out (fun _ hk => trivial)⟩, ⟨bz_⟩⟩
end Go.Proofs.Yticijjonimiooaa.PA
