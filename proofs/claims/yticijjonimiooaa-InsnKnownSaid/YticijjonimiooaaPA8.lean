import Derived.Test.YticijjonimiooaaWTab
import Derived.Test.YticijjonimiooaaPA0
import Derived.Test.YticijjonimiooaaSq
import Derived.Test.YticijjonimiooaaPA2
import Derived.Test.YticijjonimiooaaPA4
import Derived.Test.YticijjonimiooaaPA7
namespace Go.Proofs.Yticijjonimiooaa.PA
open Go.RowKit Go.Proofs.YticijjonimiooaaW.PrintWords Go.Proofs.YticijjonimiooaaW.PrintLast Go.Proofs.YticijjonimiooaaW.PrintMore
attribute [local go_sem] max2_int min2_int max_two min_two max_three min_three max_four min_four
set_option linter.unusedVariables false
set_option linter.unusedSimpArgs false
def insn_first.f (k : Nat) (l0 : List Int) : Option (Int × Int × Int × Int × Int × Int × Int) := if (l0.length : Int) < 8 then (some (0, 0, 0, 0, 0, 0, 2)) else (if 0 < (l0.length : Int) then (if 1 < (l0.length : Int) then (if 2 ≤ 4 then (if 4 ≤ (l0.length : Int) then ((insn_number.f k ((l0.take 4).drop 2)).bind fun t159 => (if 4 ≤ 8 then (if 8 ≤ (l0.length : Int) then ((insn_number.f k ((l0.take 8).drop 4)).bind fun t161 => ((insn_Size.f (wrap64 (rd l0 0)) (wrap64 (Go.bits .and .u8 (rd l0 1) 15)) (wrap64 ((rd l0 1) / 16)) t159 t161).bind fun t163 => (if (wrap64 (8 * t163)) > 8 then (if (l0.length : Int) < (wrap64 (8 * t163)) then (some (0, 0, 0, 0, 0, 0, 2)) else (if 8 ≤ 12 then (if 12 ≤ (l0.length : Int) then ((insn_number.f k ((l0.take 12).drop 8)).bind fun t165 => (if t165 = 0 then (if 12 ≤ 16 then (if 16 ≤ (l0.length : Int) then ((insn_number.f k ((l0.take 16).drop 12)).bind fun t167 => ((insn_Check.f k (wrap64 (rd l0 0)) (wrap64 (Go.bits .and .u8 (rd l0 1) 15)) (wrap64 ((rd l0 1) / 16)) t159 (Go.bits .or .i64 (Go.bits .and .i64 t161 4294967295) (wrap64 (t167 * 4294967296)))).bind fun t168 => (some (wrap64 (rd l0 0), wrap64 (Go.bits .and .u8 (rd l0 1) 15), wrap64 ((rd l0 1) / 16), t159, Go.bits .or .i64 (Go.bits .and .i64 t161 4294967295) (wrap64 (t167 * 4294967296)), wrap64 (8 * t163), t168)))) else (none)) else (none)) else (some (0, 0, 0, 0, 0, 0, 6)))) else (none)) else (none))) else ((insn_Check.f k (wrap64 (rd l0 0)) (wrap64 (Go.bits .and .u8 (rd l0 1) 15)) (wrap64 ((rd l0 1) / 16)) t159 t161).bind fun t169 => (some (wrap64 (rd l0 0), wrap64 (Go.bits .and .u8 (rd l0 1) 15), wrap64 ((rd l0 1) / 16), t159, t161, wrap64 (8 * t163), t169)))))) else (none)) else (none))) else (none)) else (none)) else (none)) else (none))
theorem insn_first.mono : ∀ a0 k, LeO (insn_first.f k a0) (insn_first.f (k + 1) a0) := by
 intro a0 k
 unfold insn_first.f
 repeat' first
  | (with_reducible exact insn_Check.mono _ _ _ _ _ _)
  | (with_reducible exact insn_number.mono _ _)
  | (with_reducible exact LeO.refl _)
  | (with_reducible exact LeO.none _)
  | (with_reducible refine LeO.ite ?_ ?_)
  | (with_reducible refine LeO.bind ?_ (fun _ => ?_))
  | exact insn_Check.mono _ _ _ _ _ _
  | exact insn_number.mono _ _
  | exact LeO.none _
  | refine LeO.ite ?_ ?_
  | refine LeO.bind ?_ (fun _ => ?_)
def insn_first.T3 : Bool × List (List Nat × List Nat) := (true, [([], []), ([0], [0]), ([1], [1]), ([2], [2]), ([], []), ([4], [4]), ([5], [5]), ([6], [6]), ([7], [7]), ([], []), ([9], [9]), ([10], [10]), ([11], [11]), ([12], [12]), ([], []), ([14], [14]), ([15], [15]), ([], []), ([17], [17]), ([18, 16], [18]), ([3, 8, 13, 16, 19], [3, 8, 13, 16, 19]), ([], []), ([21, 20, 19, 0, 1, 2, 3, 4, 5, 6, 7, 8, 9, 10, 11, 12, 13, 14, 15, 16, 17, 18, 19, 20, 21], [20, 21])])
def insn_first.B3 : List Nat := [0, 1, 3, 7, 0, 16, 48, 112, 240, 0, 512, 1536, 3584, 7680, 0, 16384, 49152, 0, 131072, 507904, 1048575, 0, 4194303]
theorem insn_first.tab3 : rtab .any (opsOf Try.f37 3) = insn_first.T3 := by kernel_rfl
theorem insn_first.bits3 : waitsOk insn_first.T3.2 insn_first.B3 = true := by kernel_rfl
def insn_first.T10 : Bool × List (List Nat × List Nat) := (true, [([], []), ([0], [0]), ([1], [1]), ([], []), ([3], [3]), ([4], [4]), ([5], [5]), ([2, 6], [2, 6]), ([0, 1, 2, 3, 4, 5, 6, 7], []), ([8, 7, 5, 0, 1, 2, 3, 4, 5, 6, 7], [7, 8])])
def insn_first.B10 : List Nat := [0, 1, 3, 0, 8, 24, 56, 127, 255, 511]
theorem insn_first.tab10 : rtab .any (opsOf Try.f37 10) = insn_first.T10 := by kernel_rfl
theorem insn_first.bits10 : waitsOk insn_first.T10.2 insn_first.B10 = true := by kernel_rfl
set_option maxHeartbeats 8000000 in
set_option maxRecDepth 100000 in
theorem insn_first.calls (k : Nat) (A0 : Option Addr) (c0 : Nat) (l0 : List Int) (r1 : Int) (r2 : Int) (r3 : Int) (r4 : Int) (r5 : Int) (r6 : Int) (r7 : Int) (w : World) (hr0 : Kd.C (Kd.int .u8) w A0 l0.length l0) (hc0 : l0.length ≤ c0) (h : insn_first.f k l0 = some (r1, r2, r3, r4, r5, r6, r7)) :
 Calls Try.prog 37 #[.slice A0 l0.length c0] w fun e w' => e = .returned (.tuple #[.agg #[.int .i64 r1, .int .i64 r2, .int .i64 r3, .int .i64 r4, .int .i64 r5], .int .i64 r6, .int .i64 r7]) ∧ Below w.heap.size w w' := by
 have hu40 := Try.underlying40
 have HR0 := Aside0.mk hr0
 have HC0 := Aside0.mk hc0
 clear hr0 hc0
 have HB := Aside0.mk (Below.refl w.heap.size w)
 have H : (if (l0.length : Int) < 8 then (some (0, 0, 0, 0, 0, 0, 2)) else (if 0 < (l0.length : Int) then (if 1 < (l0.length : Int) then (if 2 ≤ 4 then (if 4 ≤ (l0.length : Int) then ((insn_number.f k ((l0.take 4).drop 2)).bind fun t159 => (if 4 ≤ 8 then (if 8 ≤ (l0.length : Int) then ((insn_number.f k ((l0.take 8).drop 4)).bind fun t161 => ((insn_Size.f (wrap64 (rd l0 0)) (wrap64 (Go.bits .and .u8 (rd l0 1) 15)) (wrap64 ((rd l0 1) / 16)) t159 t161).bind fun t163 => (if (wrap64 (8 * t163)) > 8 then (if (l0.length : Int) < (wrap64 (8 * t163)) then (some (0, 0, 0, 0, 0, 0, 2)) else (if 8 ≤ 12 then (if 12 ≤ (l0.length : Int) then ((insn_number.f k ((l0.take 12).drop 8)).bind fun t165 => (if t165 = 0 then (if 12 ≤ 16 then (if 16 ≤ (l0.length : Int) then ((insn_number.f k ((l0.take 16).drop 12)).bind fun t167 => ((insn_Check.f k (wrap64 (rd l0 0)) (wrap64 (Go.bits .and .u8 (rd l0 1) 15)) (wrap64 ((rd l0 1) / 16)) t159 (Go.bits .or .i64 (Go.bits .and .i64 t161 4294967295) (wrap64 (t167 * 4294967296)))).bind fun t168 => (some (wrap64 (rd l0 0), wrap64 (Go.bits .and .u8 (rd l0 1) 15), wrap64 ((rd l0 1) / 16), t159, Go.bits .or .i64 (Go.bits .and .i64 t161 4294967295) (wrap64 (t167 * 4294967296)), wrap64 (8 * t163), t168)))) else (none)) else (none)) else (some (0, 0, 0, 0, 0, 0, 6)))) else (none)) else (none))) else ((insn_Check.f k (wrap64 (rd l0 0)) (wrap64 (Go.bits .and .u8 (rd l0 1) 15)) (wrap64 ((rd l0 1) / 16)) t159 t161).bind fun t169 => (some (wrap64 (rd l0 0), wrap64 (Go.bits .and .u8 (rd l0 1) 15), wrap64 ((rd l0 1) / 16), t159, t161, wrap64 (8 * t163), t169)))))) else (none)) else (none))) else (none)) else (none)) else (none)) else (none))) = some (r1, r2, r3, r4, r5, r6, r7) := h
 clear h
 by_cases c2 : (l0.length : Int) < 8
 ·rw [if_pos c2] at H
  have c2b0 : decide ((l0.length : Int) < 8) = true := decide_eq_true c2
  have c2b1 : decide (l0.length < 8) = true := decide_eq_true (by omega)
  clear c2
  simp only [Option.some.injEq, Prod.mk.injEq] at H
  obtain ⟨rfl, rfl, rfl, rfl, rfl, rfl, rfl⟩ := H
  go_enter Try.func37, Try.ntmps37
  go_wp2_with (first | ((with_reducible refine gate_dst (N := 2) rfl ?_); refine bx_ 2 #[.int .i64 0, .int .i64 0, .int .i64 0, .int .i64 0, .int .i64 0] 40 ?_; intro gb154 hg w3 BK154 hb; have GW154 := bg_ hg; have GE154 := GW154; replace HB := bl_ hb; clear hb hg; obtain ⟨zc4_0, zc4_1, zc4_2, zc4_3, zc4_4, zf4_0, zf4_1, zf4_2, zf4_3, zf4_4⟩ := k5_ BK154))
  refine bodyPost_ret (results_ctt rfl _ _ gb154 40 #[.int .i64 0, .int .i64 0, .int .i64 0, .int .i64 0, .int .i64 0] (0, 0) _ rfl (by (with_reducible repeat (first | apply bN_ | apply bD_ | apply bA_)); refine blk_put (cs := #[.int .i64 0, .int .i64 0, .int .i64 0, .int .i64 0, .int .i64 0]) ?_ 4 _ rfl; (with_reducible repeat (first | apply bN_ | apply bD_ | apply bA_)); refine blk_put (cs := #[.int .i64 0, .int .i64 0, .int .i64 0, .int .i64 0, .int .i64 0]) ?_ 3 _ rfl; (with_reducible repeat (first | apply bN_ | apply bD_ | apply bA_)); refine blk_put (cs := #[.int .i64 0, .int .i64 0, .int .i64 0, .int .i64 0, .int .i64 0]) ?_ 2 _ rfl; (with_reducible repeat (first | apply bN_ | apply bD_ | apply bA_)); refine blk_put (cs := #[.int .i64 0, .int .i64 0, .int .i64 0, .int .i64 0, .int .i64 0]) ?_ 1 _ rfl; (with_reducible repeat (first | apply bN_ | apply bD_ | apply bA_)); refine blk_put (cs := #[.int .i64 0, .int .i64 0, .int .i64 0, .int .i64 0, .int .i64 0]) ?_ 0 _ rfl; exact bk_) Try.underlying40 rfl (by kernel_rfl)) rfl ?_
  exact ⟨vv_, bz_⟩
 rw [if_neg c2] at H
 have c2b0 : decide ((l0.length : Int) < 8) = false := decide_eq_false c2
 have c2b1 : decide (l0.length < 8) = false := decide_eq_false (by omega)
 clear c2
 by_cases c5 : 0 < (l0.length : Int)
 rotate_left
 ·rw [if_neg c5] at H
  exact absurd H (by simp)
 rw [if_pos c5] at H
 have c5b0 : decide (0 < (l0.length : Int)) = true := decide_eq_true c5
 have c5b1 : decide (0 < l0.length) = true := decide_eq_true (by omega)
 clear c5
 by_cases c6 : 1 < (l0.length : Int)
 rotate_left
 ·rw [if_neg c6] at H
  exact absurd H (by simp)
 rw [if_pos c6] at H
 have c6b0 : decide (1 < (l0.length : Int)) = true := decide_eq_true c6
 have c6b1 : decide (1 < l0.length) = true := decide_eq_true (by omega)
 clear c6
 by_cases c7 : 2 ≤ 4
 rotate_left
 ·rw [if_neg c7] at H
  exact absurd H (by simp)
 rw [if_pos c7] at H
 have c7b0 := eq_true c7
 have c7b1 : decide (2 ≤ 4) = true := decide_eq_true c7
 clear c7
 by_cases c8 : 4 ≤ (l0.length : Int)
 rotate_left
 ·rw [if_neg c8] at H
  exact absurd H (by simp)
 rw [if_pos c8] at H
 have c8b0 := eq_true c8
 have c8b1 : decide (4 ≤ (l0.length : Int)) = true := decide_eq_true c8
 clear c8
 replace H := Option.bind_eq_some_iff.mp H
 obtain ⟨t159, A90, H⟩ := H
 (try dsimp only at H)
 have A9 := Aside0.mk A90
 clear A90
 by_cases c10 : 4 ≤ 8
 rotate_left
 ·rw [if_neg c10] at H
  exact absurd H (by simp)
 rw [if_pos c10] at H
 have c10b0 := eq_true c10
 have c10b1 : decide (4 ≤ 8) = true := decide_eq_true c10
 clear c10
 by_cases c11 : 8 ≤ (l0.length : Int)
 rotate_left
 ·rw [if_neg c11] at H
  exact absurd H (by simp)
 rw [if_pos c11] at H
 have c11b0 := eq_true c11
 have c11b1 : decide (8 ≤ (l0.length : Int)) = true := decide_eq_true c11
 clear c11
 replace H := Option.bind_eq_some_iff.mp H
 obtain ⟨t161, A120, H⟩ := H
 (try dsimp only at H)
 have A12 := Aside0.mk A120
 clear A120
 replace H := Option.bind_eq_some_iff.mp H
 obtain ⟨t163, A130, H⟩ := H
 (try dsimp only at H)
 have A13 := Aside0.mk A130
 clear A130
 by_cases c14 : (wrap64 (8 * t163)) > 8
 rotate_left
 ·rw [if_neg c14] at H
  have c14b0 : decide (8 < (wrap64 (8 * t163))) = false := decide_eq_false c14
  clear c14
  replace H := Option.bind_eq_some_iff.mp H
  obtain ⟨t169, A810, H⟩ := H
  (try dsimp only at H)
  have A81 := Aside0.mk A810
  clear A810
  simp only [Option.some.injEq, Prod.mk.injEq] at H
  obtain ⟨rfl, rfl, rfl, rfl, rfl, rfl, rfl⟩ := H
  go_enter Try.func37, Try.ntmps37
  try go_wp2_with (first | ((with_reducible refine gate_dst (N := 2) rfl ?_); refine bx_ 2 #[.int .i64 0, .int .i64 0, .int .i64 0, .int .i64 0, .int .i64 0] 40 ?_; intro gb154 hg w82 BK154 hb; have GW154 := bg_ hg; have GE154 := GW154; replace HB := bl_ hb; clear hb hg))
  replace BK154 := Aside0.mk (blk_drew BK154.out)
  replace HB := Aside0.mk (below_drew1 HB.out)
  have p155 : 0 ≤ (0 : Int) := (by omega)
  have q155 : 0 < (l0.length : Int) := of_decide_eq_true as_
  obtain ⟨ad155, e155, hx155_0⟩ := Kd.at_int HR0.out 0 p155 q155
  have hw155_0 := hx155_0
  (try rw [show ((0 : Int)).toNat = 0 from rfl] at hw155_0)
  (try rw [show 0 * 1 = 0 from rfl] at hw155_0)
  (try rw [Addr.add_zero'] at hw155_0)
  cases e155
  have qi155 : (0 < l0.length) = True := eq_true (by omega)
  (try rw [show ((0 : Int)).toNat = 0 from rfl] at hx155_0)
  (try rw [Addr.add_zero'] at hx155_0)
  replace hx155_0 := (hc_ HB hx155_0 :)
  replace p155 := eq_true p155
  replace q155 := eq_true q155
  have p156 : 0 ≤ (1 : Int) := (by omega)
  have q156 : 1 < (l0.length : Int) := of_decide_eq_true as_
  obtain ⟨ad156, e156, hx156_0⟩ := Kd.at_int HR0.out 1 p156 q156
  have hw156_0 := hx156_0
  (try rw [show ((1 : Int)).toNat = 1 from rfl] at hw156_0)
  (try rw [show 1 * 1 = 1 from rfl] at hw156_0)
  (try simp only [Nat.reduceMul, Nat.reduceEqDiff, Go.Addr.add, ↓reduceIte] at hw156_0)
  obtain rfl : ad155 = ad156 := (by injection e156)
  (try simp only [show (1 : Int).toNat = 1 from rfl, Nat.reduceMul, Nat.reduceEqDiff, Go.Addr.add, ↓reduceIte] at hx156_0)
  have qi156 : (1 < l0.length) = True := eq_true (by omega)
  (try rw [show ((1 : Int)).toNat = 1 from rfl] at hx156_0)
  replace hx156_0 := (hc_ HB hx156_0 :)
  replace p156 := eq_true p156
  replace q156 := eq_true q156
  have p157 : 0 ≤ (1 : Int) := (by omega)
  have q157 : 1 < (l0.length : Int) := of_decide_eq_true as_
  obtain ⟨ad157, e157, hx157_0⟩ := Kd.at_int HR0.out 1 p157 q157
  have hw157_0 := hx157_0
  (try rw [show ((1 : Int)).toNat = 1 from rfl] at hw157_0)
  (try rw [show 1 * 1 = 1 from rfl] at hw157_0)
  (try simp only [Nat.reduceMul, Nat.reduceEqDiff, Go.Addr.add, ↓reduceIte] at hw157_0)
  obtain rfl : ad155 = ad157 := (by injection e157)
  (try simp only [show (1 : Int).toNat = 1 from rfl, Nat.reduceMul, Nat.reduceEqDiff, Go.Addr.add, ↓reduceIte] at hx157_0)
  have qi157 : (1 < l0.length) = True := eq_true (by omega)
  (try rw [show ((1 : Int)).toNat = 1 from rfl] at hx157_0)
  replace hx157_0 := (hc_ HB hx157_0 :)
  replace p157 := eq_true p157
  replace q157 := eq_true q157
  obtain ⟨i084, hi084, _, hsz84, _⟩ := info_parts info5
  obtain ⟨A84, hcut84, hA84, hC84⟩ := print_mid_of (P := Try.prog) (Value.int .u8) 0 25 5 .i64 .i64 Try.underlying25 hi084 hsz84 (some ad155) c0 l0 2 4 (by omega) (by first | omega | exact of_decide_eq_true as_) (of_decide_eq_true as_) HC0.out
  have HR158 := Aside0.mk (Kd.C_of_reads (h1 := fun _ => rfl) (hA84 _ (Kd.reads_of_C HR0.out)))
  have HC158 := Aside0.mk hC84
  clear hA84 hC84 hi084 hsz84
  obtain ⟨i085, hi085, _, hsz85, _⟩ := info_parts info5
  obtain ⟨A85, hcut85, hA85, hC85⟩ := print_mid_of (P := Try.prog) (Value.int .u8) 0 25 5 .i64 .i64 Try.underlying25 hi085 hsz85 (some ad155) c0 l0 4 8 (by omega) (by first | omega | exact of_decide_eq_true as_) (of_decide_eq_true as_) HC0.out
  have HR160 := Aside0.mk (Kd.C_of_reads (h1 := fun _ => rfl) (hA85 _ (Kd.reads_of_C HR0.out)))
  have HC160 := Aside0.mk hC85
  clear hA85 hC85 hi085 hsz85
  refine start_ (n := 23) (S := fun w' => w'.cell? ad155 = some (.int .u8 (rd l0 0)) ∧ w'.cell? ⟨ad155.block, ad155.off + 1, none⟩ = some (.int .u8 (rd l0 1)) ∧ w'.cell? ⟨ad155.block, ad155.off + 1, none⟩ = some (.int .u8 (rd l0 1))) (ds := []) #[Z,Z,Z,Z,Z,Z,Z,Z,Z,Z,Z,Z,Z,Z,Z,Z,Z,Z,Z,Z,Z,Z,Z] (by kernel_rfl) rfl rfl ⟨(hc_ HB hw155_0 :), (hc_ HB hw156_0 :), (hc_ HB hw157_0 :)⟩ (fun hHeld => ?_); refine with_tabW insn_first.tab3 insn_first.bits3 (fun HT_ HW_ => ?_)
  generalize w82.drew = w83 at BK154 HB HR158 HR160 hx155_0 hx156_0 hx157_0 hHeld ⊢
  refine pq_ 0 11 #[Y,Z,Z,Z,Z,Z,Z,Z,Z,Z,Z,Z,Z,Z,Z,Z,Z,Z,Z,Z,Z,Z,Z] ?_
  refine pq_ 1 12 #[Y,Y,Z,Z,Z,Z,Z,Z,Z,Z,Z,Z,Z,Z,Z,Z,Z,Z,Z,Z,Z,Z,Z] ?_
  refine pq_ 4 15 #[Y,Y,Z,Z,Y,Z,Z,Z,Z,Z,Z,Z,Z,Z,Z,Z,Z,Z,Z,Z,Z,Z,Z] ?_
  refine pq_ 5 16 #[Y,Y,Z,Z,Y,Y,Z,Z,Z,Z,Z,Z,Z,Z,Z,Z,Z,Z,Z,Z,Z,Z,Z] ?_
  refine pq_ 9 20 #[Y,Y,Z,Z,Y,Y,Z,Z,Z,Y,Z,Z,Z,Z,Z,Z,Z,Z,Z,Z,Z,Z,Z] ?_
  refine pq_ 10 21 #[Y,Y,Z,Z,Y,Y,Z,Z,Z,Y,Y,Z,Z,Z,Z,Z,Z,Z,Z,Z,Z,Z,Z] ?_
  refine pq_ 14 25 #[Y,Y,Z,Z,Y,Y,Z,Z,Z,Y,Y,Z,Z,Z,Y,Z,Z,Z,Z,Z,Z,Z,Z] ?_
  refine pq_ 15 26 #[Y,Y,Z,Z,Y,Y,Z,Z,Z,Y,Y,Z,Z,Z,Y,Y,Z,Z,Z,Z,Z,Z,Z] ?_
  refine pq_ 17 28 #[Y,Y,Z,Z,Y,Y,Z,Z,Z,Y,Y,Z,Z,Z,Y,Y,Z,Y,Z,Z,Z,Z,Z] ?_
  refine pq_ 18 29 #[Y,Y,Z,Z,Y,Y,Z,Z,Z,Y,Y,Z,Z,Z,Y,Y,Z,Y,Y,Z,Z,Z,Z] ?_
  refine tq1_ 2 13 #[Y,Y,Y,Z,Y,Y,Z,Z,Z,Y,Y,Z,Z,Z,Y,Y,Z,Y,Y,Z,Z,Z,Z] hHeld ?_
  refine pq_ 3 14 #[Y,Y,Y,Y,Y,Y,Z,Z,Z,Y,Y,Z,Z,Z,Y,Y,Z,Y,Y,Z,Z,Z,Z] ?_
  refine tq1_ 6 17 #[Y,Y,Y,Y,Y,Y,Y,Z,Z,Y,Y,Z,Z,Z,Y,Y,Z,Y,Y,Z,Z,Z,Z] hHeld ?_
  refine pq_ 7 18 #[Y,Y,Y,Y,Y,Y,Y,Y,Z,Y,Y,Z,Z,Z,Y,Y,Z,Y,Y,Z,Z,Z,Z] ?_
  refine pq_ 8 19 #[Y,Y,Y,Y,Y,Y,Y,Y,Y,Y,Y,Z,Z,Z,Y,Y,Z,Y,Y,Z,Z,Z,Z] ?_
  refine tq1_ 11 22 #[Y,Y,Y,Y,Y,Y,Y,Y,Y,Y,Y,Y,Z,Z,Y,Y,Z,Y,Y,Z,Z,Z,Z] hHeld ?_
  refine pq_ 12 23 #[Y,Y,Y,Y,Y,Y,Y,Y,Y,Y,Y,Y,Y,Z,Y,Y,Z,Y,Y,Z,Z,Z,Z] ?_
  refine pq_ 13 24 #[Y,Y,Y,Y,Y,Y,Y,Y,Y,Y,Y,Y,Y,Y,Y,Y,Z,Y,Y,Z,Z,Z,Z] ?_
  refine join_ (σ := Nat) 1 #[Y,Y,Y,Y,Y,Y,Y,Y,Y,Y,Y,Y,Y,Y,Y,Y,Y,Y,Y,Y,Y,Y,Z] (fun s_ => [(27, .int .i64 t159), (30, .int .i64 t161), (5, .pointer (some ⟨s_, 0, none⟩)), (31, .agg #[.int .i64 (wrap64 (rd l0 0)), .int .i64 (wrap64 (Go.bits .and .u8 (rd l0 1) 15)), .int .i64 (wrap64 ((rd l0 1) / 16)), .int .i64 t159, .int .i64 t161])]) (fun s_ w' => (w'.cell? ad155 = some (.int .u8 (rd l0 0)) ∧ w'.cell? ⟨ad155.block, ad155.off + 1, none⟩ = some (.int .u8 (rd l0 1)) ∧ w'.cell? ⟨ad155.block, ad155.off + 1, none⟩ = some (.int .u8 (rd l0 1))) ∧ (w'.heap[gb154]? = some (.cells #[.int .i64 0, .int .i64 0, .int .i64 0, .int .i64 0, .int .i64 0] 40 (0, 0))) ∧ (w'.heap[s_]? = some (.cells #[.int .i64 0, .int .i64 0, .int .i64 0, .int .i64 0, .int .i64 0] 40 (0, 0))) ∧ (w.heap.size ≤ s_) ∧ (w.heap.size ≤ s_) ∧ (gb154 ≠ s_) ∧ (s_ ≠ gb154) ∧ (Below w.heap.size w w')) ?_ ?_
  rotate_left
  ·intro hCont
   refine two_ (i := 16) (j := 21) (Ni := some 27) (Nj := some 5) #[Y,Y,Y,Y,Y,Y,Y,Y,Y,Y,Y,Y,Y,Y,Y,Y,Y,Y,Y,Z,Z,Z,Z] #[Y,Y,Y,Y,Y,Y,Y,Y,Y,Y,Y,Y,Y,Y,Y,Y,Z,Y,Y,Z,Z,Y,Z] rfl rfl rfl rfl (two_of HT_.out (by kernel_rfl)) (by decide) (by decide) (fun K hK => ?_) (fun K hK => ?_)
   rotate_left
   ·skip
    refine box_step ?hg (N := 5) ?hd (cs := #[.int .i64 0, .int .i64 0, .int .i64 0, .int .i64 0, .int .i64 0]) (t := 40) ?hr ?_; (case hd => rfl); (case hg => rfl); (case hr => first | (go_simp; done) | (go_simp; rfl))
    intro gb162 hg w86 hbox hb
    have BK162 := Aside0.mk (hbox)
    have GW162 := bg_ hg
    have GE162 := GW162
    have NB154_162 := bm_ hg BK154
    have NB162_154 := bn_ hg BK154
    replace BK154 := bb_ hb BK154
    replace HB := bl_ hb
    clear hb hbox hg
    refine hK.out _ _ ⟨(hc_ HB hw155_0 :), (hc_ HB hw156_0 :), (hc_ HB hw157_0 :)⟩ (fun hHeld => ?_)
    clear hK K
    refine norm_ (a' := ?_) ?_ ?_
    rotate_left
    ·show Act.put _ (some 5) _ = _
     simp only [Act.put, s1_, s2_, s3_, i64_w, i32_w]
     rfl
    refine one_ (i := 16) (N := some 27) #[Y,Y,Y,Y,Y,Y,Y,Y,Y,Y,Y,Y,Y,Y,Y,Y,Y,Y,Y,Z,Z,Y,Z] rfl rfl (one_of HT_.out (by kernel_rfl)) (by decide) (fun K hK => ?_)
    refine goes_ Try.func45 (by kernel_rfl) rfl #[.slice A84 ((l0.take 4).drop 2).length (c0 - 2)] (by rfl) rfl rfl (by (try simp only [List.map_toArray, List.map_cons, List.map_nil]); first | done | (rw [show ((l0.take 4).drop 2).length = (4 - 2) from (by rw [List.length_drop, List.length_take]; have h_ : (4 : Int) ≤ (l0.length : Int) := of_decide_eq_true as_; omega)] <;> rfl) | rfl | (simp only [List.length_drop, List.length_take]; rfl)) ?_
    with_reducible refine (insn_number.calls k _ _ ((l0.take 4).drop 2) t159 _ ?side1 ?side2 A9.out).mono ?_
    (case side1 => exact ca_ (Kd.C_below HR158.out HB.out))
    (case side2 => exact HC158.out)
    rintro e w' ⟨rfl, ⟨nd, rfl⟩⟩
    refine ⟨_, rfl, ?_⟩
    refine hK.out _ _ ⟨(hc_ HB hw155_0 :), (hc_ HB hw156_0 :), (hc_ HB hw157_0 :)⟩ (fun hHeld => ?_)
    clear hK K
    refine norm_ (a' := ?_) ?_ ?_
    rotate_left
    ·show Act.put _ (some 27) _ = _
     simp only [Act.put, s1_, s2_, s3_, i64_w, i32_w]
     rfl
    refine one_ (i := 19) (N := some 30) #[Y,Y,Y,Y,Y,Y,Y,Y,Y,Y,Y,Y,Y,Y,Y,Y,Y,Y,Y,Y,Z,Y,Z] rfl rfl (one_of HT_.out (by kernel_rfl)) (by decide) (fun K hK => ?_)
    refine goes_ Try.func45 (by kernel_rfl) rfl #[.slice A85 ((l0.take 8).drop 4).length (c0 - 4)] (by rfl) rfl rfl (by (try simp only [List.map_toArray, List.map_cons, List.map_nil]); first | done | (rw [show ((l0.take 8).drop 4).length = (8 - 4) from (by rw [List.length_drop, List.length_take]; have h_ : (8 : Int) ≤ (l0.length : Int) := of_decide_eq_true as_; omega)] <;> rfl) | rfl | (simp only [List.length_drop, List.length_take]; rfl)) ?_
    with_reducible refine (insn_number.calls k _ _ ((l0.take 8).drop 4) t161 _ ?side1 ?side2 A12.out).mono ?_
    (case side1 => exact ca_ (Kd.C_below HR160.out bz_))
    (case side2 => exact HC160.out)
    rintro e w' ⟨rfl, ⟨nd, rfl⟩⟩
    refine ⟨_, rfl, ?_⟩
    refine hK.out _ _ ⟨(hc_ HB hw155_0 :), (hc_ HB hw156_0 :), (hc_ HB hw157_0 :)⟩ (fun hHeld => ?_)
    clear hK K
    refine norm_ (a' := ?_) ?_ ?_
    rotate_left
    ·show Act.put _ (some 30) _ = _
     simp only [Act.put, s1_, s2_, s3_, i64_w, i32_w]
     rfl
    refine pq_ 20 31 #[Y,Y,Y,Y,Y,Y,Y,Y,Y,Y,Y,Y,Y,Y,Y,Y,Y,Y,Y,Y,Y,Y,Z] ?_
    exact norm_ (by simp only [putAll, Act.put, List.setIfInBounds_toArray, List.set_cons_zero, List.set_cons_succ]) (hCont (gb162) _ ⟨hHeld, bk_, bk_, GW162.out, GE162.out, NB154_162.out, NB162_154.out, bz_⟩)
   refine goes_ Try.func45 (by kernel_rfl) rfl #[.slice A84 ((l0.take 4).drop 2).length (c0 - 2)] (by rfl) rfl rfl (by (try simp only [List.map_toArray, List.map_cons, List.map_nil]); first | done | (rw [show ((l0.take 4).drop 2).length = (4 - 2) from (by rw [List.length_drop, List.length_take]; have h_ : (4 : Int) ≤ (l0.length : Int) := of_decide_eq_true as_; omega)] <;> rfl) | rfl | (simp only [List.length_drop, List.length_take]; rfl)) ?_
   with_reducible refine (insn_number.calls k _ _ ((l0.take 4).drop 2) t159 _ ?side1 ?side2 A9.out).mono ?_
   (case side1 => exact ca_ (Kd.C_below HR158.out HB.out))
   (case side2 => exact HC158.out)
   rintro e w' ⟨rfl, ⟨nd, rfl⟩⟩
   refine ⟨_, rfl, ?_⟩
   refine hK.out _ _ ⟨(hc_ HB hw155_0 :), (hc_ HB hw156_0 :), (hc_ HB hw157_0 :)⟩ (fun hHeld => ?_)
   clear hK K
   refine norm_ (a' := ?_) ?_ ?_
   rotate_left
   ·show Act.put _ (some 27) _ = _
    simp only [Act.put, s1_, s2_, s3_, i64_w, i32_w]
    rfl
   refine two_ (i := 19) (j := 21) (Ni := some 30) (Nj := some 5) #[Y,Y,Y,Y,Y,Y,Y,Y,Y,Y,Y,Y,Y,Y,Y,Y,Y,Y,Y,Y,Z,Z,Z] #[Y,Y,Y,Y,Y,Y,Y,Y,Y,Y,Y,Y,Y,Y,Y,Y,Y,Y,Y,Z,Z,Y,Z] rfl rfl rfl rfl (two_of HT_.out (by kernel_rfl)) (by decide) (by decide) (fun K hK => ?_) (fun K hK => ?_)
   ·skip
    refine goes_ Try.func45 (by kernel_rfl) rfl #[.slice A85 ((l0.take 8).drop 4).length (c0 - 4)] (by rfl) rfl rfl (by (try simp only [List.map_toArray, List.map_cons, List.map_nil]); first | done | (rw [show ((l0.take 8).drop 4).length = (8 - 4) from (by rw [List.length_drop, List.length_take]; have h_ : (8 : Int) ≤ (l0.length : Int) := of_decide_eq_true as_; omega)] <;> rfl) | rfl | (simp only [List.length_drop, List.length_take]; rfl)) ?_
    with_reducible refine (insn_number.calls k _ _ ((l0.take 8).drop 4) t161 _ ?side1 ?side2 A12.out).mono ?_
    (case side1 => exact ca_ (Kd.C_below HR160.out bz_))
    (case side2 => exact HC160.out)
    rintro e w' ⟨rfl, ⟨nd, rfl⟩⟩
    refine ⟨_, rfl, ?_⟩
    refine hK.out _ _ ⟨(hc_ HB hw155_0 :), (hc_ HB hw156_0 :), (hc_ HB hw157_0 :)⟩ (fun hHeld => ?_)
    clear hK K
    refine norm_ (a' := ?_) ?_ ?_
    rotate_left
    ·show Act.put _ (some 30) _ = _
     simp only [Act.put, s1_, s2_, s3_, i64_w, i32_w]
     rfl
    refine pq_ 20 31 #[Y,Y,Y,Y,Y,Y,Y,Y,Y,Y,Y,Y,Y,Y,Y,Y,Y,Y,Y,Y,Y,Z,Z] ?_
    refine one_ (i := 21) (N := some 5) #[Y,Y,Y,Y,Y,Y,Y,Y,Y,Y,Y,Y,Y,Y,Y,Y,Y,Y,Y,Y,Y,Y,Z] rfl rfl (one_of HT_.out (by kernel_rfl)) (by decide) (fun K hK => ?_)
    refine box_step ?hg (N := 5) ?hd (cs := #[.int .i64 0, .int .i64 0, .int .i64 0, .int .i64 0, .int .i64 0]) (t := 40) ?hr ?_; (case hd => rfl); (case hg => rfl); (case hr => first | (go_simp; done) | (go_simp; rfl))
    intro gb162 hg w86 hbox hb
    have BK162 := Aside0.mk (hbox)
    have GW162 := bg_ hg
    have GE162 := GW162
    have NB154_162 := bm_ hg BK154
    have NB162_154 := bn_ hg BK154
    replace BK154 := bb_ hb BK154
    replace HB := bl_ hb
    clear hb hbox hg
    refine hK.out _ _ ⟨(hc_ HB hw155_0 :), (hc_ HB hw156_0 :), (hc_ HB hw157_0 :)⟩ (fun hHeld => ?_)
    clear hK K
    refine norm_ (a' := ?_) ?_ ?_
    rotate_left
    ·show Act.put _ (some 5) _ = _
     simp only [Act.put, s1_, s2_, s3_, i64_w, i32_w]
     rfl
    exact norm_ (by simp only [putAll, Act.put, List.setIfInBounds_toArray, List.set_cons_zero, List.set_cons_succ]) (hCont (gb162) _ ⟨hHeld, bk_, bk_, GW162.out, GE162.out, NB154_162.out, NB162_154.out, bz_⟩)
   refine box_step ?hg (N := 5) ?hd (cs := #[.int .i64 0, .int .i64 0, .int .i64 0, .int .i64 0, .int .i64 0]) (t := 40) ?hr ?_; (case hd => rfl); (case hg => rfl); (case hr => first | (go_simp; done) | (go_simp; rfl))
   intro gb162 hg w86 hbox hb
   have BK162 := Aside0.mk (hbox)
   have GW162 := bg_ hg
   have GE162 := GW162
   have NB154_162 := bm_ hg BK154
   have NB162_154 := bn_ hg BK154
   replace BK154 := bb_ hb BK154
   replace HB := bl_ hb
   clear hb hbox hg
   refine hK.out _ _ ⟨(hc_ HB hw155_0 :), (hc_ HB hw156_0 :), (hc_ HB hw157_0 :)⟩ (fun hHeld => ?_)
   clear hK K
   refine norm_ (a' := ?_) ?_ ?_
   rotate_left
   ·show Act.put _ (some 5) _ = _
    simp only [Act.put, s1_, s2_, s3_, i64_w, i32_w]
    rfl
   refine one_ (i := 19) (N := some 30) #[Y,Y,Y,Y,Y,Y,Y,Y,Y,Y,Y,Y,Y,Y,Y,Y,Y,Y,Y,Y,Z,Y,Z] rfl rfl (one_of HT_.out (by kernel_rfl)) (by decide) (fun K hK => ?_)
   refine goes_ Try.func45 (by kernel_rfl) rfl #[.slice A85 ((l0.take 8).drop 4).length (c0 - 4)] (by rfl) rfl rfl (by (try simp only [List.map_toArray, List.map_cons, List.map_nil]); first | done | (rw [show ((l0.take 8).drop 4).length = (8 - 4) from (by rw [List.length_drop, List.length_take]; have h_ : (8 : Int) ≤ (l0.length : Int) := of_decide_eq_true as_; omega)] <;> rfl) | rfl | (simp only [List.length_drop, List.length_take]; rfl)) ?_
   with_reducible refine (insn_number.calls k _ _ ((l0.take 8).drop 4) t161 _ ?side1 ?side2 A12.out).mono ?_
   (case side1 => exact ca_ (Kd.C_below HR160.out HB.out))
   (case side2 => exact HC160.out)
   rintro e w' ⟨rfl, ⟨nd, rfl⟩⟩
   refine ⟨_, rfl, ?_⟩
   refine hK.out _ _ ⟨(hc_ HB hw155_0 :), (hc_ HB hw156_0 :), (hc_ HB hw157_0 :)⟩ (fun hHeld => ?_)
   clear hK K
   refine norm_ (a' := ?_) ?_ ?_
   rotate_left
   ·show Act.put _ (some 30) _ = _
    simp only [Act.put, s1_, s2_, s3_, i64_w, i32_w]
    rfl
   refine pq_ 20 31 #[Y,Y,Y,Y,Y,Y,Y,Y,Y,Y,Y,Y,Y,Y,Y,Y,Y,Y,Y,Y,Y,Y,Z] ?_
   exact norm_ (by simp only [putAll, Act.put, List.setIfInBounds_toArray, List.set_cons_zero, List.set_cons_succ]) (hCont (gb162) _ ⟨hHeld, bk_, bk_, GW162.out, GE162.out, NB154_162.out, NB162_154.out, bz_⟩)
  rintro gb162 w87 ⟨hS_, h0_, h1_, h2_, h3_, h4_, h5_, h6_⟩
  have n0_ : Aside0 (w87.heap[gb154]? = some (.cells #[.int .i64 0, .int .i64 0, .int .i64 0, .int .i64 0, .int .i64 0] 40 (0, 0))) := ⟨h0_⟩
  have n1_ : Aside0 (w87.heap[gb162]? = some (.cells #[.int .i64 0, .int .i64 0, .int .i64 0, .int .i64 0, .int .i64 0] 40 (0, 0))) := ⟨h1_⟩
  have n2_ : Aside0 (w.heap.size ≤ gb162) := ⟨h2_⟩
  have n3_ : Aside0 (w.heap.size ≤ gb162) := ⟨h3_⟩
  have n4_ : Aside0 (gb154 ≠ gb162) := ⟨h4_⟩
  have n5_ : Aside0 (gb162 ≠ gb154) := ⟨h5_⟩
  have n6_ : Aside0 (Below w.heap.size w w87) := ⟨h6_⟩
  clear BK154
  clear HB
  clear h0_ h1_ h2_ h3_ h4_ h5_ h6_
  have BK154 := n0_
  have BK162 := n1_
  have GW162 := n2_
  have GE162 := n3_
  have NB154_162 := n4_
  have NB162_154 := n5_
  have HB := n6_
  clear n0_ n1_ n2_ n3_ n4_ n5_ n6_
  have hHeld : w87.cell? ad155 = some (.int .u8 (rd l0 0)) ∧ w87.cell? ⟨ad155.block, ad155.off + 1, none⟩ = some (.int .u8 (rd l0 1)) ∧ w87.cell? ⟨ad155.block, ad155.off + 1, none⟩ = some (.int .u8 (rd l0 1)) := hS_
  refine norm_ (a' := ?_) ?_ ?_
  rotate_left
  ·simp only [putAll, Act.put, List.setIfInBounds_toArray, List.set_cons_zero, List.set_cons_succ]
   rfl
  refine one_ (i := 22) (N := none) #[Y,Y,Y,Y,Y,Y,Y,Y,Y,Y,Y,Y,Y,Y,Y,Y,Y,Y,Y,Y,Y,Y,Y] rfl rfl (one_of HT_.out (by kernel_rfl)) (by decide) (fun K hK => ?_)
  obtain ⟨hs88, hfs88⟩ := k1_ BK162
  have hns88_0 := NB154_162.out
  have hms88_0 := NB162_154.out
  have hs89 := c1_ BK162
  have hfs89 := fz_ BK162 1
  have hns89_0 := NB154_162.out
  have hms89_0 := NB162_154.out
  have hs90 := c2_ BK162
  have hfs90 := fz_ BK162 2
  have hns90_0 := NB154_162.out
  have hms90_0 := NB162_154.out
  have hs91 := c3_ BK162
  have hfs91 := fz_ BK162 3
  have hns91_0 := NB154_162.out
  have hms91_0 := NB162_154.out
  have hs92 := c4_ BK162
  have hfs92 := fz_ BK162 4
  have hns92_0 := NB154_162.out
  have hms92_0 := NB162_154.out
  refine skip_ (w1 := ?_) (by rfl) rfl ?_ ?_
  rotate_left
  ·go_simp
   rfl
  refine hK.out _ _ ⟨((cell_far (p := ⟨gb162, _, none⟩) (nf_ hw155_0 GW162) _).trans (((cell_far (p := ⟨gb162, _, none⟩) (nf_ hw155_0 GW162) _).trans (((cell_far (p := ⟨gb162, _, none⟩) (nf_ hw155_0 GW162) _).trans (((cell_far (p := ⟨gb162, _, none⟩) (nf_ hw155_0 GW162) _).trans (((cell_far (p := ⟨gb162, _, none⟩) (nf_ hw155_0 GW162) _).trans (hHeld.1)))))))))), ((cell_far (p := ⟨gb162, _, none⟩) (nf_ hw156_0 GW162) _).trans (((cell_far (p := ⟨gb162, _, none⟩) (nf_ hw156_0 GW162) _).trans (((cell_far (p := ⟨gb162, _, none⟩) (nf_ hw156_0 GW162) _).trans (((cell_far (p := ⟨gb162, _, none⟩) (nf_ hw156_0 GW162) _).trans (((cell_far (p := ⟨gb162, _, none⟩) (nf_ hw156_0 GW162) _).trans (hHeld.2.1)))))))))), ((cell_far (p := ⟨gb162, _, none⟩) (nf_ hw157_0 GW162) _).trans (((cell_far (p := ⟨gb162, _, none⟩) (nf_ hw157_0 GW162) _).trans (((cell_far (p := ⟨gb162, _, none⟩) (nf_ hw157_0 GW162) _).trans (((cell_far (p := ⟨gb162, _, none⟩) (nf_ hw157_0 GW162) _).trans (((cell_far (p := ⟨gb162, _, none⟩) (nf_ hw157_0 GW162) _).trans (hHeld.2.2))))))))))⟩ (fun hHeld => ?_)
  clear hK K
  refine done_ (done_of HT_.out (by kernel_rfl)) ?_
  have hnb93 := NB162_154.out
  have hnc93 := NB154_162.out
  obtain ⟨zc94_0, zc94_1, zc94_2, zc94_3, zc94_4, zf94_0, zf94_1, zf94_2, zf94_3, zf94_4⟩ := k5_ BK162
  try go_wp2_with (first | ((with_reducible refine gate_callee (f := 24) rfl ?_); refine goesL_ (some 33) rfl rfl Try.func24 (by kernel_rfl) rfl #[.agg #[.int .i64 (wrap64 (rd l0 0)), .int .i64 (wrap64 (Go.bits .and .u8 (rd l0 1) 15)), .int .i64 (wrap64 ((rd l0 1) / 16)), .int .i64 t159, .int .i64 t161]] rfl (by (try simp only [List.map_toArray, List.map_cons, List.map_nil]); first | done | rfl | (simp only [List.length_drop, List.length_take]; rfl)) ?_; (with_reducible refine (insn_Size.calls (wrap64 (rd l0 0)) (wrap64 (Go.bits .and .u8 (rd l0 1) 15)) (wrap64 ((rd l0 1) / 16)) t159 t161 t163 _ A13.out).mono ?_); rintro e w95 ⟨rfl, hb⟩; refine ⟨_, rfl, ?_⟩; have n0_ := Aside0.mk (blk_below (g := gb154) (o := .cells #[.int .i64 0, .int .i64 0, .int .i64 0, .int .i64 0, .int .i64 0] 40 (0, 0)) (by (with_reducible repeat (first | apply bN_ | apply bD_ | apply bA_)); refine blk_far ?_ NB154_162.out _; (with_reducible repeat (first | apply bN_ | apply bD_ | apply bA_)); refine blk_far ?_ NB154_162.out _; (with_reducible repeat (first | apply bN_ | apply bD_ | apply bA_)); refine blk_far ?_ NB154_162.out _; (with_reducible repeat (first | apply bN_ | apply bD_ | apply bA_)); refine blk_far ?_ NB154_162.out _; (with_reducible repeat (first | apply bN_ | apply bD_ | apply bA_)); refine blk_far ?_ NB154_162.out _; exact bk_) hb); have n1_ := Aside0.mk (blk_below (g := gb162) (o := .cells #[.int .i64 (wrap64 (rd l0 0)), .int .i64 (wrap64 (Go.bits .and .u8 (rd l0 1) 15)), .int .i64 (wrap64 ((rd l0 1) / 16)), .int .i64 t159, .int .i64 t161] 40 (0, 0)) (by (with_reducible repeat (first | apply bN_ | apply bD_ | apply bA_)); refine blk_put (cs := #[.int .i64 (wrap64 (rd l0 0)), .int .i64 (wrap64 (Go.bits .and .u8 (rd l0 1) 15)), .int .i64 (wrap64 ((rd l0 1) / 16)), .int .i64 t159, .int .i64 0]) ?_ 4 _ rfl; (with_reducible repeat (first | apply bN_ | apply bD_ | apply bA_)); refine blk_put (cs := #[.int .i64 (wrap64 (rd l0 0)), .int .i64 (wrap64 (Go.bits .and .u8 (rd l0 1) 15)), .int .i64 (wrap64 ((rd l0 1) / 16)), .int .i64 0, .int .i64 0]) ?_ 3 _ rfl; (with_reducible repeat (first | apply bN_ | apply bD_ | apply bA_)); refine blk_put (cs := #[.int .i64 (wrap64 (rd l0 0)), .int .i64 (wrap64 (Go.bits .and .u8 (rd l0 1) 15)), .int .i64 0, .int .i64 0, .int .i64 0]) ?_ 2 _ rfl; (with_reducible repeat (first | apply bN_ | apply bD_ | apply bA_)); refine blk_put (cs := #[.int .i64 (wrap64 (rd l0 0)), .int .i64 0, .int .i64 0, .int .i64 0, .int .i64 0]) ?_ 1 _ rfl; (with_reducible repeat (first | apply bN_ | apply bD_ | apply bA_)); refine blk_put (cs := #[.int .i64 0, .int .i64 0, .int .i64 0, .int .i64 0, .int .i64 0]) ?_ 0 _ rfl; exact bk_) hb); have n2_ := bl_ hb; clear BK154; clear BK162; clear HB; have BK154 := n0_; have BK162 := n1_; have HB := n2_; clear n0_ n1_ n2_; (try clear hb); ))
  replace BK154 := Aside0.mk (blk_drew BK154.out)
  replace BK162 := Aside0.mk (blk_drew BK162.out)
  replace HB := Aside0.mk (below_drew1 HB.out)
  refine start_ (n := 7) (S := fun w' => w'.cell? ⟨gb162, 0, none⟩ = some (.int .i64 (wrap64 (rd l0 0))) ∧ w'.cell? ⟨gb162, 1, none⟩ = some (.int .i64 (wrap64 (Go.bits .and .u8 (rd l0 1) 15))) ∧ w'.cell? ⟨gb162, 2, none⟩ = some (.int .i64 (wrap64 ((rd l0 1) / 16))) ∧ w'.cell? ⟨gb162, 3, none⟩ = some (.int .i64 t159) ∧ w'.cell? ⟨gb162, 4, none⟩ = some (.int .i64 t161)) (ds := []) #[Z,Z,Z,Z,Z,Z,Z] (by kernel_rfl) rfl rfl ⟨c0_ BK162, c1_ BK162, c2_ BK162, c3_ BK162, c4_ BK162⟩ (fun hHeld => ?_)
  generalize w95.drew = w96 at BK154 BK162 HB hHeld ⊢
  refine pure_ (i := 1) (N := some 59) (v := ?_) (a' := ?_) #[Z,Y,Z,Z,Z,Z,Z] rfl rfl (by kernel_rfl) (fun _ _ _ h => h) (Or.inl ⟨by rfl, ?_⟩) ?_ ?_
  rotate_left
  ·intro w'
   go_simp
   with_reducible rfl
  rotate_left
  ·simp only [Act.put, s1_, s2_, s3_, i64_w, i32_w]
   rfl
  refine take_ (i := 0) (N := some 58) (v := ?_) (a' := ?_) #[Y,Y,Z,Z,Z,Z,Z] rfl rfl (by kernel_rfl) (fun _ _ _ h => h) (Or.inl ⟨by rfl, ?_⟩) hHeld ?_ ?_
  rotate_left
  ·rintro w' ⟨s0, s1, s2, s3, s4⟩
   go_simp
   with_reducible rfl
  rotate_left
  ·simp only [Act.put, s1_, s2_, s3_, i64_w, i32_w]
   rfl
  refine take_ (i := 2) (N := some 60) (v := ?_) (a' := ?_) #[Y,Y,Y,Z,Z,Z,Z] rfl rfl (by kernel_rfl) (fun _ _ _ h => h) (Or.inl ⟨by rfl, ?_⟩) hHeld ?_ ?_
  rotate_left
  ·rintro w' ⟨s0, s1, s2, s3, s4⟩
   go_simp
   with_reducible rfl
  rotate_left
  ·simp only [Act.put, s1_, s2_, s3_, i64_w, i32_w]
   rfl
  refine one_ (i := 3) (N := some 61) #[Y,Y,Y,Y,Z,Z,Z] rfl rfl (by kernel_rfl) (by decide) (fun K hK => ?_)
  refine goes_ Try.func25 (by kernel_rfl) rfl #[.agg #[.int .i64 (wrap64 (rd l0 0)), .int .i64 (wrap64 (Go.bits .and .u8 (rd l0 1) 15)), .int .i64 (wrap64 ((rd l0 1) / 16)), .int .i64 t159, .int .i64 t161]] (by rfl) rfl rfl (by (try simp only [List.map_toArray, List.map_cons, List.map_nil]); first | done | rfl | (simp only [List.length_drop, List.length_take]; rfl)) ?_
  with_reducible refine (insn_Check.calls k (wrap64 (rd l0 0)) (wrap64 (Go.bits .and .u8 (rd l0 1) 15)) (wrap64 ((rd l0 1) / 16)) t159 t161 t169 _ A81.out).mono ?_
  rintro e w97 ⟨rfl, hb⟩
  refine ⟨_, rfl, ?_⟩
  replace BK154 := bb_ hb BK154
  replace BK162 := Aside0.mk (blk_below (g := gb162) (o := .cells #[.int .i64 (wrap64 (rd l0 0)), .int .i64 (wrap64 (Go.bits .and .u8 (rd l0 1) 15)), .int .i64 (wrap64 ((rd l0 1) / 16)), .int .i64 t159, .int .i64 t161] 40 (0, 0)) bk_ hb)
  replace HB := bl_ hb
  try clear hb
  refine hK.out _ _ ⟨c0_ BK162, c1_ BK162, c2_ BK162, c3_ BK162, c4_ BK162⟩ (fun hHeld => ?_)
  clear hK K
  refine norm_ (a' := ?_) ?_ ?_
  rotate_left
  ·show Act.put _ (some 61) _ = _
   simp only [Act.put, s1_, s2_, s3_, i64_w, i32_w]
   rfl
  refine one_ (i := 4) (N := none) #[Y,Y,Y,Y,Y,Z,Z] rfl rfl (by kernel_rfl) (by decide) (fun K hK => ?_)
  obtain ⟨hs98, hfs98⟩ := k1_ BK154
  have hns98_1 := NB162_154.out
  have hms98_1 := NB154_162.out
  have hs99 := c1_ BK154
  have hfs99 := fz_ BK154 1
  have hns99_1 := NB162_154.out
  have hms99_1 := NB154_162.out
  have hs100 := c2_ BK154
  have hfs100 := fz_ BK154 2
  have hns100_1 := NB162_154.out
  have hms100_1 := NB154_162.out
  have hs101 := c3_ BK154
  have hfs101 := fz_ BK154 3
  have hns101_1 := NB162_154.out
  have hms101_1 := NB154_162.out
  have hs102 := c4_ BK154
  have hfs102 := fz_ BK154 4
  have hns102_1 := NB162_154.out
  have hms102_1 := NB154_162.out
  refine skip_ (w1 := ?_) (by rfl) rfl ?_ ?_
  rotate_left
  ·go_simp
   rfl
  refine hK.out _ _ ⟨((cell_far (p := ⟨gb154, _, none⟩) NB162_154.out _).trans (((cell_far (p := ⟨gb154, _, none⟩) NB162_154.out _).trans (((cell_far (p := ⟨gb154, _, none⟩) NB162_154.out _).trans (((cell_far (p := ⟨gb154, _, none⟩) NB162_154.out _).trans (((cell_far (p := ⟨gb154, _, none⟩) NB162_154.out _).trans (hHeld.1)))))))))), ((cell_far (p := ⟨gb154, _, none⟩) NB162_154.out _).trans (((cell_far (p := ⟨gb154, _, none⟩) NB162_154.out _).trans (((cell_far (p := ⟨gb154, _, none⟩) NB162_154.out _).trans (((cell_far (p := ⟨gb154, _, none⟩) NB162_154.out _).trans (((cell_far (p := ⟨gb154, _, none⟩) NB162_154.out _).trans (hHeld.2.1)))))))))), ((cell_far (p := ⟨gb154, _, none⟩) NB162_154.out _).trans (((cell_far (p := ⟨gb154, _, none⟩) NB162_154.out _).trans (((cell_far (p := ⟨gb154, _, none⟩) NB162_154.out _).trans (((cell_far (p := ⟨gb154, _, none⟩) NB162_154.out _).trans (((cell_far (p := ⟨gb154, _, none⟩) NB162_154.out _).trans (hHeld.2.2.1)))))))))), ((cell_far (p := ⟨gb154, _, none⟩) NB162_154.out _).trans (((cell_far (p := ⟨gb154, _, none⟩) NB162_154.out _).trans (((cell_far (p := ⟨gb154, _, none⟩) NB162_154.out _).trans (((cell_far (p := ⟨gb154, _, none⟩) NB162_154.out _).trans (((cell_far (p := ⟨gb154, _, none⟩) NB162_154.out _).trans (hHeld.2.2.2.1)))))))))), ((cell_far (p := ⟨gb154, _, none⟩) NB162_154.out _).trans (((cell_far (p := ⟨gb154, _, none⟩) NB162_154.out _).trans (((cell_far (p := ⟨gb154, _, none⟩) NB162_154.out _).trans (((cell_far (p := ⟨gb154, _, none⟩) NB162_154.out _).trans (((cell_far (p := ⟨gb154, _, none⟩) NB162_154.out _).trans (hHeld.2.2.2.2))))))))))⟩ (fun hHeld => ?_)
  clear hK K
  refine pure_ (i := 5) (N := some 3) (v := ?_) (a' := ?_) #[Y,Y,Y,Y,Y,Y,Z] rfl rfl (by kernel_rfl) (fun _ _ _ h => h) (Or.inl ⟨by rfl, ?_⟩) ?_ ?_
  rotate_left
  ·intro w'
   go_simp
   with_reducible rfl
  rotate_left
  ·simp only [Act.put, s1_, s2_, s3_, i64_w, i32_w]
   rfl
  refine pure_ (i := 6) (N := some 4) (v := ?_) (a' := ?_) #[Y,Y,Y,Y,Y,Y,Y] rfl rfl (by kernel_rfl) (fun _ _ _ h => h) (Or.inl ⟨by rfl, ?_⟩) ?_ ?_
  rotate_left
  ·intro w'
   go_simp
   with_reducible rfl
  rotate_left
  ·simp only [Act.put, s1_, s2_, s3_, i64_w, i32_w]
   rfl
  refine done_ (by kernel_rfl) ?_
  try go_wp2
  refine bodyPost_ret (results_ctt rfl _ _ gb154 40 #[.int .i64 (wrap64 (rd l0 0)), .int .i64 (wrap64 (Go.bits .and .u8 (rd l0 1) 15)), .int .i64 (wrap64 ((rd l0 1) / 16)), .int .i64 t159, .int .i64 t161] (0, 0) _ rfl (by (with_reducible repeat (first | apply bN_ | apply bD_ | apply bA_)); refine blk_put (cs := #[.int .i64 (wrap64 (rd l0 0)), .int .i64 (wrap64 (Go.bits .and .u8 (rd l0 1) 15)), .int .i64 (wrap64 ((rd l0 1) / 16)), .int .i64 t159, .int .i64 0]) ?_ 4 _ rfl; (with_reducible repeat (first | apply bN_ | apply bD_ | apply bA_)); refine blk_put (cs := #[.int .i64 (wrap64 (rd l0 0)), .int .i64 (wrap64 (Go.bits .and .u8 (rd l0 1) 15)), .int .i64 (wrap64 ((rd l0 1) / 16)), .int .i64 0, .int .i64 0]) ?_ 3 _ rfl; (with_reducible repeat (first | apply bN_ | apply bD_ | apply bA_)); refine blk_put (cs := #[.int .i64 (wrap64 (rd l0 0)), .int .i64 (wrap64 (Go.bits .and .u8 (rd l0 1) 15)), .int .i64 0, .int .i64 0, .int .i64 0]) ?_ 2 _ rfl; (with_reducible repeat (first | apply bN_ | apply bD_ | apply bA_)); refine blk_put (cs := #[.int .i64 (wrap64 (rd l0 0)), .int .i64 0, .int .i64 0, .int .i64 0, .int .i64 0]) ?_ 1 _ rfl; (with_reducible repeat (first | apply bN_ | apply bD_ | apply bA_)); refine blk_put (cs := #[.int .i64 0, .int .i64 0, .int .i64 0, .int .i64 0, .int .i64 0]) ?_ 0 _ rfl; exact bk_) Try.underlying40 rfl (by kernel_rfl)) rfl ?_
  exact ⟨vv_, bz_⟩
 rw [if_pos c14] at H
 have c14b0 : decide (8 < (wrap64 (8 * t163))) = true := decide_eq_true c14
 clear c14
 by_cases c15 : (l0.length : Int) < (wrap64 (8 * t163))
 ·rw [if_pos c15] at H
  have c15b0 : decide ((l0.length : Int) < (wrap64 (8 * t163))) = true := decide_eq_true c15
  clear c15
  simp only [Option.some.injEq, Prod.mk.injEq] at H
  obtain ⟨rfl, rfl, rfl, rfl, rfl, rfl, rfl⟩ := H
  go_enter Try.func37, Try.ntmps37
  try go_wp2_with (first | ((with_reducible refine gate_dst (N := 2) rfl ?_); refine bx_ 2 #[.int .i64 0, .int .i64 0, .int .i64 0, .int .i64 0, .int .i64 0] 40 ?_; intro gb154 hg w16 BK154 hb; have GW154 := bg_ hg; have GE154 := GW154; replace HB := bl_ hb; clear hb hg))
  replace BK154 := Aside0.mk (blk_drew BK154.out)
  replace HB := Aside0.mk (below_drew1 HB.out)
  have p155 : 0 ≤ (0 : Int) := (by omega)
  have q155 : 0 < (l0.length : Int) := of_decide_eq_true as_
  obtain ⟨ad155, e155, hx155_0⟩ := Kd.at_int HR0.out 0 p155 q155
  have hw155_0 := hx155_0
  (try rw [show ((0 : Int)).toNat = 0 from rfl] at hw155_0)
  (try rw [show 0 * 1 = 0 from rfl] at hw155_0)
  (try rw [Addr.add_zero'] at hw155_0)
  cases e155
  have qi155 : (0 < l0.length) = True := eq_true (by omega)
  (try rw [show ((0 : Int)).toNat = 0 from rfl] at hx155_0)
  (try rw [Addr.add_zero'] at hx155_0)
  replace hx155_0 := (hc_ HB hx155_0 :)
  replace p155 := eq_true p155
  replace q155 := eq_true q155
  have p156 : 0 ≤ (1 : Int) := (by omega)
  have q156 : 1 < (l0.length : Int) := of_decide_eq_true as_
  obtain ⟨ad156, e156, hx156_0⟩ := Kd.at_int HR0.out 1 p156 q156
  have hw156_0 := hx156_0
  (try rw [show ((1 : Int)).toNat = 1 from rfl] at hw156_0)
  (try rw [show 1 * 1 = 1 from rfl] at hw156_0)
  (try simp only [Nat.reduceMul, Nat.reduceEqDiff, Go.Addr.add, ↓reduceIte] at hw156_0)
  obtain rfl : ad155 = ad156 := (by injection e156)
  (try simp only [show (1 : Int).toNat = 1 from rfl, Nat.reduceMul, Nat.reduceEqDiff, Go.Addr.add, ↓reduceIte] at hx156_0)
  have qi156 : (1 < l0.length) = True := eq_true (by omega)
  (try rw [show ((1 : Int)).toNat = 1 from rfl] at hx156_0)
  replace hx156_0 := (hc_ HB hx156_0 :)
  replace p156 := eq_true p156
  replace q156 := eq_true q156
  have p157 : 0 ≤ (1 : Int) := (by omega)
  have q157 : 1 < (l0.length : Int) := of_decide_eq_true as_
  obtain ⟨ad157, e157, hx157_0⟩ := Kd.at_int HR0.out 1 p157 q157
  have hw157_0 := hx157_0
  (try rw [show ((1 : Int)).toNat = 1 from rfl] at hw157_0)
  (try rw [show 1 * 1 = 1 from rfl] at hw157_0)
  (try simp only [Nat.reduceMul, Nat.reduceEqDiff, Go.Addr.add, ↓reduceIte] at hw157_0)
  obtain rfl : ad155 = ad157 := (by injection e157)
  (try simp only [show (1 : Int).toNat = 1 from rfl, Nat.reduceMul, Nat.reduceEqDiff, Go.Addr.add, ↓reduceIte] at hx157_0)
  have qi157 : (1 < l0.length) = True := eq_true (by omega)
  (try rw [show ((1 : Int)).toNat = 1 from rfl] at hx157_0)
  replace hx157_0 := (hc_ HB hx157_0 :)
  replace p157 := eq_true p157
  replace q157 := eq_true q157
  obtain ⟨i018, hi018, _, hsz18, _⟩ := info_parts info5
  obtain ⟨A18, hcut18, hA18, hC18⟩ := print_mid_of (P := Try.prog) (Value.int .u8) 0 25 5 .i64 .i64 Try.underlying25 hi018 hsz18 (some ad155) c0 l0 2 4 (by omega) (by first | omega | exact of_decide_eq_true as_) (of_decide_eq_true as_) HC0.out
  have HR158 := Aside0.mk (Kd.C_of_reads (h1 := fun _ => rfl) (hA18 _ (Kd.reads_of_C HR0.out)))
  have HC158 := Aside0.mk hC18
  clear hA18 hC18 hi018 hsz18
  obtain ⟨i019, hi019, _, hsz19, _⟩ := info_parts info5
  obtain ⟨A19, hcut19, hA19, hC19⟩ := print_mid_of (P := Try.prog) (Value.int .u8) 0 25 5 .i64 .i64 Try.underlying25 hi019 hsz19 (some ad155) c0 l0 4 8 (by omega) (by first | omega | exact of_decide_eq_true as_) (of_decide_eq_true as_) HC0.out
  have HR160 := Aside0.mk (Kd.C_of_reads (h1 := fun _ => rfl) (hA19 _ (Kd.reads_of_C HR0.out)))
  have HC160 := Aside0.mk hC19
  clear hA19 hC19 hi019 hsz19
  refine start_ (n := 23) (S := fun w' => w'.cell? ad155 = some (.int .u8 (rd l0 0)) ∧ w'.cell? ⟨ad155.block, ad155.off + 1, none⟩ = some (.int .u8 (rd l0 1)) ∧ w'.cell? ⟨ad155.block, ad155.off + 1, none⟩ = some (.int .u8 (rd l0 1))) (ds := []) #[Z,Z,Z,Z,Z,Z,Z,Z,Z,Z,Z,Z,Z,Z,Z,Z,Z,Z,Z,Z,Z,Z,Z] (by kernel_rfl) rfl rfl ⟨(hc_ HB hw155_0 :), (hc_ HB hw156_0 :), (hc_ HB hw157_0 :)⟩ (fun hHeld => ?_); refine with_tabW insn_first.tab3 insn_first.bits3 (fun HT_ HW_ => ?_)
  generalize w16.drew = w17 at BK154 HB HR158 HR160 hx155_0 hx156_0 hx157_0 hHeld ⊢
  refine pq_ 0 11 #[Y,Z,Z,Z,Z,Z,Z,Z,Z,Z,Z,Z,Z,Z,Z,Z,Z,Z,Z,Z,Z,Z,Z] ?_
  refine pq_ 1 12 #[Y,Y,Z,Z,Z,Z,Z,Z,Z,Z,Z,Z,Z,Z,Z,Z,Z,Z,Z,Z,Z,Z,Z] ?_
  refine pq_ 4 15 #[Y,Y,Z,Z,Y,Z,Z,Z,Z,Z,Z,Z,Z,Z,Z,Z,Z,Z,Z,Z,Z,Z,Z] ?_
  refine pq_ 5 16 #[Y,Y,Z,Z,Y,Y,Z,Z,Z,Z,Z,Z,Z,Z,Z,Z,Z,Z,Z,Z,Z,Z,Z] ?_
  refine pq_ 9 20 #[Y,Y,Z,Z,Y,Y,Z,Z,Z,Y,Z,Z,Z,Z,Z,Z,Z,Z,Z,Z,Z,Z,Z] ?_
  refine pq_ 10 21 #[Y,Y,Z,Z,Y,Y,Z,Z,Z,Y,Y,Z,Z,Z,Z,Z,Z,Z,Z,Z,Z,Z,Z] ?_
  refine pq_ 14 25 #[Y,Y,Z,Z,Y,Y,Z,Z,Z,Y,Y,Z,Z,Z,Y,Z,Z,Z,Z,Z,Z,Z,Z] ?_
  refine pq_ 15 26 #[Y,Y,Z,Z,Y,Y,Z,Z,Z,Y,Y,Z,Z,Z,Y,Y,Z,Z,Z,Z,Z,Z,Z] ?_
  refine pq_ 17 28 #[Y,Y,Z,Z,Y,Y,Z,Z,Z,Y,Y,Z,Z,Z,Y,Y,Z,Y,Z,Z,Z,Z,Z] ?_
  refine pq_ 18 29 #[Y,Y,Z,Z,Y,Y,Z,Z,Z,Y,Y,Z,Z,Z,Y,Y,Z,Y,Y,Z,Z,Z,Z] ?_
  refine tq1_ 2 13 #[Y,Y,Y,Z,Y,Y,Z,Z,Z,Y,Y,Z,Z,Z,Y,Y,Z,Y,Y,Z,Z,Z,Z] hHeld ?_
  refine pq_ 3 14 #[Y,Y,Y,Y,Y,Y,Z,Z,Z,Y,Y,Z,Z,Z,Y,Y,Z,Y,Y,Z,Z,Z,Z] ?_
  refine tq1_ 6 17 #[Y,Y,Y,Y,Y,Y,Y,Z,Z,Y,Y,Z,Z,Z,Y,Y,Z,Y,Y,Z,Z,Z,Z] hHeld ?_
  refine pq_ 7 18 #[Y,Y,Y,Y,Y,Y,Y,Y,Z,Y,Y,Z,Z,Z,Y,Y,Z,Y,Y,Z,Z,Z,Z] ?_
  refine pq_ 8 19 #[Y,Y,Y,Y,Y,Y,Y,Y,Y,Y,Y,Z,Z,Z,Y,Y,Z,Y,Y,Z,Z,Z,Z] ?_
  refine tq1_ 11 22 #[Y,Y,Y,Y,Y,Y,Y,Y,Y,Y,Y,Y,Z,Z,Y,Y,Z,Y,Y,Z,Z,Z,Z] hHeld ?_
  refine pq_ 12 23 #[Y,Y,Y,Y,Y,Y,Y,Y,Y,Y,Y,Y,Y,Z,Y,Y,Z,Y,Y,Z,Z,Z,Z] ?_
  refine pq_ 13 24 #[Y,Y,Y,Y,Y,Y,Y,Y,Y,Y,Y,Y,Y,Y,Y,Y,Z,Y,Y,Z,Z,Z,Z] ?_
  refine join_ (σ := Nat) 1 #[Y,Y,Y,Y,Y,Y,Y,Y,Y,Y,Y,Y,Y,Y,Y,Y,Y,Y,Y,Y,Y,Y,Z] (fun s_ => [(27, .int .i64 t159), (30, .int .i64 t161), (5, .pointer (some ⟨s_, 0, none⟩)), (31, .agg #[.int .i64 (wrap64 (rd l0 0)), .int .i64 (wrap64 (Go.bits .and .u8 (rd l0 1) 15)), .int .i64 (wrap64 ((rd l0 1) / 16)), .int .i64 t159, .int .i64 t161])]) (fun s_ w' => (w'.cell? ad155 = some (.int .u8 (rd l0 0)) ∧ w'.cell? ⟨ad155.block, ad155.off + 1, none⟩ = some (.int .u8 (rd l0 1)) ∧ w'.cell? ⟨ad155.block, ad155.off + 1, none⟩ = some (.int .u8 (rd l0 1))) ∧ (w'.heap[gb154]? = some (.cells #[.int .i64 0, .int .i64 0, .int .i64 0, .int .i64 0, .int .i64 0] 40 (0, 0))) ∧ (w'.heap[s_]? = some (.cells #[.int .i64 0, .int .i64 0, .int .i64 0, .int .i64 0, .int .i64 0] 40 (0, 0))) ∧ (w.heap.size ≤ s_) ∧ (w.heap.size ≤ s_) ∧ (gb154 ≠ s_) ∧ (s_ ≠ gb154) ∧ (Below w.heap.size w w')) ?_ ?_
  rotate_left
  ·intro hCont
   refine two_ (i := 16) (j := 21) (Ni := some 27) (Nj := some 5) #[Y,Y,Y,Y,Y,Y,Y,Y,Y,Y,Y,Y,Y,Y,Y,Y,Y,Y,Y,Z,Z,Z,Z] #[Y,Y,Y,Y,Y,Y,Y,Y,Y,Y,Y,Y,Y,Y,Y,Y,Z,Y,Y,Z,Z,Y,Z] rfl rfl rfl rfl (two_of HT_.out (by kernel_rfl)) (by decide) (by decide) (fun K hK => ?_) (fun K hK => ?_)
   rotate_left
   ·skip
    refine box_step ?hg (N := 5) ?hd (cs := #[.int .i64 0, .int .i64 0, .int .i64 0, .int .i64 0, .int .i64 0]) (t := 40) ?hr ?_; (case hd => rfl); (case hg => rfl); (case hr => first | (go_simp; done) | (go_simp; rfl))
    intro gb162 hg w20 hbox hb
    have BK162 := Aside0.mk (hbox)
    have GW162 := bg_ hg
    have GE162 := GW162
    have NB154_162 := bm_ hg BK154
    have NB162_154 := bn_ hg BK154
    replace BK154 := bb_ hb BK154
    replace HB := bl_ hb
    clear hb hbox hg
    refine hK.out _ _ ⟨(hc_ HB hw155_0 :), (hc_ HB hw156_0 :), (hc_ HB hw157_0 :)⟩ (fun hHeld => ?_)
    clear hK K
    refine norm_ (a' := ?_) ?_ ?_
    rotate_left
    ·show Act.put _ (some 5) _ = _
     simp only [Act.put, s1_, s2_, s3_, i64_w, i32_w]
     rfl
    refine one_ (i := 16) (N := some 27) #[Y,Y,Y,Y,Y,Y,Y,Y,Y,Y,Y,Y,Y,Y,Y,Y,Y,Y,Y,Z,Z,Y,Z] rfl rfl (one_of HT_.out (by kernel_rfl)) (by decide) (fun K hK => ?_)
    refine goes_ Try.func45 (by kernel_rfl) rfl #[.slice A18 ((l0.take 4).drop 2).length (c0 - 2)] (by rfl) rfl rfl (by (try simp only [List.map_toArray, List.map_cons, List.map_nil]); first | done | (rw [show ((l0.take 4).drop 2).length = (4 - 2) from (by rw [List.length_drop, List.length_take]; have h_ : (4 : Int) ≤ (l0.length : Int) := of_decide_eq_true as_; omega)] <;> rfl) | rfl | (simp only [List.length_drop, List.length_take]; rfl)) ?_
    with_reducible refine (insn_number.calls k _ _ ((l0.take 4).drop 2) t159 _ ?side1 ?side2 A9.out).mono ?_
    (case side1 => exact ca_ (Kd.C_below HR158.out HB.out))
    (case side2 => exact HC158.out)
    rintro e w' ⟨rfl, ⟨nd, rfl⟩⟩
    refine ⟨_, rfl, ?_⟩
    refine hK.out _ _ ⟨(hc_ HB hw155_0 :), (hc_ HB hw156_0 :), (hc_ HB hw157_0 :)⟩ (fun hHeld => ?_)
    clear hK K
    refine norm_ (a' := ?_) ?_ ?_
    rotate_left
    ·show Act.put _ (some 27) _ = _
     simp only [Act.put, s1_, s2_, s3_, i64_w, i32_w]
     rfl
    refine one_ (i := 19) (N := some 30) #[Y,Y,Y,Y,Y,Y,Y,Y,Y,Y,Y,Y,Y,Y,Y,Y,Y,Y,Y,Y,Z,Y,Z] rfl rfl (one_of HT_.out (by kernel_rfl)) (by decide) (fun K hK => ?_)
    refine goes_ Try.func45 (by kernel_rfl) rfl #[.slice A19 ((l0.take 8).drop 4).length (c0 - 4)] (by rfl) rfl rfl (by (try simp only [List.map_toArray, List.map_cons, List.map_nil]); first | done | (rw [show ((l0.take 8).drop 4).length = (8 - 4) from (by rw [List.length_drop, List.length_take]; have h_ : (8 : Int) ≤ (l0.length : Int) := of_decide_eq_true as_; omega)] <;> rfl) | rfl | (simp only [List.length_drop, List.length_take]; rfl)) ?_
    with_reducible refine (insn_number.calls k _ _ ((l0.take 8).drop 4) t161 _ ?side1 ?side2 A12.out).mono ?_
    (case side1 => exact ca_ (Kd.C_below HR160.out bz_))
    (case side2 => exact HC160.out)
    rintro e w' ⟨rfl, ⟨nd, rfl⟩⟩
    refine ⟨_, rfl, ?_⟩
    refine hK.out _ _ ⟨(hc_ HB hw155_0 :), (hc_ HB hw156_0 :), (hc_ HB hw157_0 :)⟩ (fun hHeld => ?_)
    clear hK K
    refine norm_ (a' := ?_) ?_ ?_
    rotate_left
    ·show Act.put _ (some 30) _ = _
     simp only [Act.put, s1_, s2_, s3_, i64_w, i32_w]
     rfl
    refine pq_ 20 31 #[Y,Y,Y,Y,Y,Y,Y,Y,Y,Y,Y,Y,Y,Y,Y,Y,Y,Y,Y,Y,Y,Y,Z] ?_
    exact norm_ (by simp only [putAll, Act.put, List.setIfInBounds_toArray, List.set_cons_zero, List.set_cons_succ]) (hCont (gb162) _ ⟨hHeld, bk_, bk_, GW162.out, GE162.out, NB154_162.out, NB162_154.out, bz_⟩)
   refine goes_ Try.func45 (by kernel_rfl) rfl #[.slice A18 ((l0.take 4).drop 2).length (c0 - 2)] (by rfl) rfl rfl (by (try simp only [List.map_toArray, List.map_cons, List.map_nil]); first | done | (rw [show ((l0.take 4).drop 2).length = (4 - 2) from (by rw [List.length_drop, List.length_take]; have h_ : (4 : Int) ≤ (l0.length : Int) := of_decide_eq_true as_; omega)] <;> rfl) | rfl | (simp only [List.length_drop, List.length_take]; rfl)) ?_
   with_reducible refine (insn_number.calls k _ _ ((l0.take 4).drop 2) t159 _ ?side1 ?side2 A9.out).mono ?_
   (case side1 => exact ca_ (Kd.C_below HR158.out HB.out))
   (case side2 => exact HC158.out)
   rintro e w' ⟨rfl, ⟨nd, rfl⟩⟩
   refine ⟨_, rfl, ?_⟩
   refine hK.out _ _ ⟨(hc_ HB hw155_0 :), (hc_ HB hw156_0 :), (hc_ HB hw157_0 :)⟩ (fun hHeld => ?_)
   clear hK K
   refine norm_ (a' := ?_) ?_ ?_
   rotate_left
   ·show Act.put _ (some 27) _ = _
    simp only [Act.put, s1_, s2_, s3_, i64_w, i32_w]
    rfl
   refine two_ (i := 19) (j := 21) (Ni := some 30) (Nj := some 5) #[Y,Y,Y,Y,Y,Y,Y,Y,Y,Y,Y,Y,Y,Y,Y,Y,Y,Y,Y,Y,Z,Z,Z] #[Y,Y,Y,Y,Y,Y,Y,Y,Y,Y,Y,Y,Y,Y,Y,Y,Y,Y,Y,Z,Z,Y,Z] rfl rfl rfl rfl (two_of HT_.out (by kernel_rfl)) (by decide) (by decide) (fun K hK => ?_) (fun K hK => ?_)
   ·skip
    refine goes_ Try.func45 (by kernel_rfl) rfl #[.slice A19 ((l0.take 8).drop 4).length (c0 - 4)] (by rfl) rfl rfl (by (try simp only [List.map_toArray, List.map_cons, List.map_nil]); first | done | (rw [show ((l0.take 8).drop 4).length = (8 - 4) from (by rw [List.length_drop, List.length_take]; have h_ : (8 : Int) ≤ (l0.length : Int) := of_decide_eq_true as_; omega)] <;> rfl) | rfl | (simp only [List.length_drop, List.length_take]; rfl)) ?_
    with_reducible refine (insn_number.calls k _ _ ((l0.take 8).drop 4) t161 _ ?side1 ?side2 A12.out).mono ?_
    (case side1 => exact ca_ (Kd.C_below HR160.out bz_))
    (case side2 => exact HC160.out)
    rintro e w' ⟨rfl, ⟨nd, rfl⟩⟩
    refine ⟨_, rfl, ?_⟩
    refine hK.out _ _ ⟨(hc_ HB hw155_0 :), (hc_ HB hw156_0 :), (hc_ HB hw157_0 :)⟩ (fun hHeld => ?_)
    clear hK K
    refine norm_ (a' := ?_) ?_ ?_
    rotate_left
    ·show Act.put _ (some 30) _ = _
     simp only [Act.put, s1_, s2_, s3_, i64_w, i32_w]
     rfl
    refine pq_ 20 31 #[Y,Y,Y,Y,Y,Y,Y,Y,Y,Y,Y,Y,Y,Y,Y,Y,Y,Y,Y,Y,Y,Z,Z] ?_
    refine one_ (i := 21) (N := some 5) #[Y,Y,Y,Y,Y,Y,Y,Y,Y,Y,Y,Y,Y,Y,Y,Y,Y,Y,Y,Y,Y,Y,Z] rfl rfl (one_of HT_.out (by kernel_rfl)) (by decide) (fun K hK => ?_)
    refine box_step ?hg (N := 5) ?hd (cs := #[.int .i64 0, .int .i64 0, .int .i64 0, .int .i64 0, .int .i64 0]) (t := 40) ?hr ?_; (case hd => rfl); (case hg => rfl); (case hr => first | (go_simp; done) | (go_simp; rfl))
    intro gb162 hg w20 hbox hb
    have BK162 := Aside0.mk (hbox)
    have GW162 := bg_ hg
    have GE162 := GW162
    have NB154_162 := bm_ hg BK154
    have NB162_154 := bn_ hg BK154
    replace BK154 := bb_ hb BK154
    replace HB := bl_ hb
    clear hb hbox hg
    refine hK.out _ _ ⟨(hc_ HB hw155_0 :), (hc_ HB hw156_0 :), (hc_ HB hw157_0 :)⟩ (fun hHeld => ?_)
    clear hK K
    refine norm_ (a' := ?_) ?_ ?_
    rotate_left
    ·show Act.put _ (some 5) _ = _
     simp only [Act.put, s1_, s2_, s3_, i64_w, i32_w]
     rfl
    exact norm_ (by simp only [putAll, Act.put, List.setIfInBounds_toArray, List.set_cons_zero, List.set_cons_succ]) (hCont (gb162) _ ⟨hHeld, bk_, bk_, GW162.out, GE162.out, NB154_162.out, NB162_154.out, bz_⟩)
   refine box_step ?hg (N := 5) ?hd (cs := #[.int .i64 0, .int .i64 0, .int .i64 0, .int .i64 0, .int .i64 0]) (t := 40) ?hr ?_; (case hd => rfl); (case hg => rfl); (case hr => first | (go_simp; done) | (go_simp; rfl))
   intro gb162 hg w20 hbox hb
   have BK162 := Aside0.mk (hbox)
   have GW162 := bg_ hg
   have GE162 := GW162
   have NB154_162 := bm_ hg BK154
   have NB162_154 := bn_ hg BK154
   replace BK154 := bb_ hb BK154
   replace HB := bl_ hb
   clear hb hbox hg
   refine hK.out _ _ ⟨(hc_ HB hw155_0 :), (hc_ HB hw156_0 :), (hc_ HB hw157_0 :)⟩ (fun hHeld => ?_)
   clear hK K
   refine norm_ (a' := ?_) ?_ ?_
   rotate_left
   ·show Act.put _ (some 5) _ = _
    simp only [Act.put, s1_, s2_, s3_, i64_w, i32_w]
    rfl
   refine one_ (i := 19) (N := some 30) #[Y,Y,Y,Y,Y,Y,Y,Y,Y,Y,Y,Y,Y,Y,Y,Y,Y,Y,Y,Y,Z,Y,Z] rfl rfl (one_of HT_.out (by kernel_rfl)) (by decide) (fun K hK => ?_)
   refine goes_ Try.func45 (by kernel_rfl) rfl #[.slice A19 ((l0.take 8).drop 4).length (c0 - 4)] (by rfl) rfl rfl (by (try simp only [List.map_toArray, List.map_cons, List.map_nil]); first | done | (rw [show ((l0.take 8).drop 4).length = (8 - 4) from (by rw [List.length_drop, List.length_take]; have h_ : (8 : Int) ≤ (l0.length : Int) := of_decide_eq_true as_; omega)] <;> rfl) | rfl | (simp only [List.length_drop, List.length_take]; rfl)) ?_
   with_reducible refine (insn_number.calls k _ _ ((l0.take 8).drop 4) t161 _ ?side1 ?side2 A12.out).mono ?_
   (case side1 => exact ca_ (Kd.C_below HR160.out HB.out))
   (case side2 => exact HC160.out)
   rintro e w' ⟨rfl, ⟨nd, rfl⟩⟩
   refine ⟨_, rfl, ?_⟩
   refine hK.out _ _ ⟨(hc_ HB hw155_0 :), (hc_ HB hw156_0 :), (hc_ HB hw157_0 :)⟩ (fun hHeld => ?_)
   clear hK K
   refine norm_ (a' := ?_) ?_ ?_
   rotate_left
   ·show Act.put _ (some 30) _ = _
    simp only [Act.put, s1_, s2_, s3_, i64_w, i32_w]
    rfl
   refine pq_ 20 31 #[Y,Y,Y,Y,Y,Y,Y,Y,Y,Y,Y,Y,Y,Y,Y,Y,Y,Y,Y,Y,Y,Y,Z] ?_
   exact norm_ (by simp only [putAll, Act.put, List.setIfInBounds_toArray, List.set_cons_zero, List.set_cons_succ]) (hCont (gb162) _ ⟨hHeld, bk_, bk_, GW162.out, GE162.out, NB154_162.out, NB162_154.out, bz_⟩)
  rintro gb162 w21 ⟨hS_, h0_, h1_, h2_, h3_, h4_, h5_, h6_⟩
  have n0_ : Aside0 (w21.heap[gb154]? = some (.cells #[.int .i64 0, .int .i64 0, .int .i64 0, .int .i64 0, .int .i64 0] 40 (0, 0))) := ⟨h0_⟩
  have n1_ : Aside0 (w21.heap[gb162]? = some (.cells #[.int .i64 0, .int .i64 0, .int .i64 0, .int .i64 0, .int .i64 0] 40 (0, 0))) := ⟨h1_⟩
  have n2_ : Aside0 (w.heap.size ≤ gb162) := ⟨h2_⟩
  have n3_ : Aside0 (w.heap.size ≤ gb162) := ⟨h3_⟩
  have n4_ : Aside0 (gb154 ≠ gb162) := ⟨h4_⟩
  have n5_ : Aside0 (gb162 ≠ gb154) := ⟨h5_⟩
  have n6_ : Aside0 (Below w.heap.size w w21) := ⟨h6_⟩
  clear BK154
  clear HB
  clear h0_ h1_ h2_ h3_ h4_ h5_ h6_
  have BK154 := n0_
  have BK162 := n1_
  have GW162 := n2_
  have GE162 := n3_
  have NB154_162 := n4_
  have NB162_154 := n5_
  have HB := n6_
  clear n0_ n1_ n2_ n3_ n4_ n5_ n6_
  have hHeld : w21.cell? ad155 = some (.int .u8 (rd l0 0)) ∧ w21.cell? ⟨ad155.block, ad155.off + 1, none⟩ = some (.int .u8 (rd l0 1)) ∧ w21.cell? ⟨ad155.block, ad155.off + 1, none⟩ = some (.int .u8 (rd l0 1)) := hS_
  refine norm_ (a' := ?_) ?_ ?_
  rotate_left
  ·simp only [putAll, Act.put, List.setIfInBounds_toArray, List.set_cons_zero, List.set_cons_succ]
   rfl
  refine one_ (i := 22) (N := none) #[Y,Y,Y,Y,Y,Y,Y,Y,Y,Y,Y,Y,Y,Y,Y,Y,Y,Y,Y,Y,Y,Y,Y] rfl rfl (one_of HT_.out (by kernel_rfl)) (by decide) (fun K hK => ?_)
  obtain ⟨hs22, hfs22⟩ := k1_ BK162
  have hns22_0 := NB154_162.out
  have hms22_0 := NB162_154.out
  have hs23 := c1_ BK162
  have hfs23 := fz_ BK162 1
  have hns23_0 := NB154_162.out
  have hms23_0 := NB162_154.out
  have hs24 := c2_ BK162
  have hfs24 := fz_ BK162 2
  have hns24_0 := NB154_162.out
  have hms24_0 := NB162_154.out
  have hs25 := c3_ BK162
  have hfs25 := fz_ BK162 3
  have hns25_0 := NB154_162.out
  have hms25_0 := NB162_154.out
  have hs26 := c4_ BK162
  have hfs26 := fz_ BK162 4
  have hns26_0 := NB154_162.out
  have hms26_0 := NB162_154.out
  refine skip_ (w1 := ?_) (by rfl) rfl ?_ ?_
  rotate_left
  ·go_simp
   rfl
  refine hK.out _ _ ⟨((cell_far (p := ⟨gb162, _, none⟩) (nf_ hw155_0 GW162) _).trans (((cell_far (p := ⟨gb162, _, none⟩) (nf_ hw155_0 GW162) _).trans (((cell_far (p := ⟨gb162, _, none⟩) (nf_ hw155_0 GW162) _).trans (((cell_far (p := ⟨gb162, _, none⟩) (nf_ hw155_0 GW162) _).trans (((cell_far (p := ⟨gb162, _, none⟩) (nf_ hw155_0 GW162) _).trans (hHeld.1)))))))))), ((cell_far (p := ⟨gb162, _, none⟩) (nf_ hw156_0 GW162) _).trans (((cell_far (p := ⟨gb162, _, none⟩) (nf_ hw156_0 GW162) _).trans (((cell_far (p := ⟨gb162, _, none⟩) (nf_ hw156_0 GW162) _).trans (((cell_far (p := ⟨gb162, _, none⟩) (nf_ hw156_0 GW162) _).trans (((cell_far (p := ⟨gb162, _, none⟩) (nf_ hw156_0 GW162) _).trans (hHeld.2.1)))))))))), ((cell_far (p := ⟨gb162, _, none⟩) (nf_ hw157_0 GW162) _).trans (((cell_far (p := ⟨gb162, _, none⟩) (nf_ hw157_0 GW162) _).trans (((cell_far (p := ⟨gb162, _, none⟩) (nf_ hw157_0 GW162) _).trans (((cell_far (p := ⟨gb162, _, none⟩) (nf_ hw157_0 GW162) _).trans (((cell_far (p := ⟨gb162, _, none⟩) (nf_ hw157_0 GW162) _).trans (hHeld.2.2))))))))))⟩ (fun hHeld => ?_)
  clear hK K
  refine done_ (done_of HT_.out (by kernel_rfl)) ?_
  have hnb27 := NB162_154.out
  have hnc27 := NB154_162.out
  obtain ⟨zc28_0, zc28_1, zc28_2, zc28_3, zc28_4, zf28_0, zf28_1, zf28_2, zf28_3, zf28_4⟩ := k5_ BK162
  try go_wp2_with (first | ((with_reducible refine gate_callee (f := 24) rfl ?_); refine goesL_ (some 33) rfl rfl Try.func24 (by kernel_rfl) rfl #[.agg #[.int .i64 (wrap64 (rd l0 0)), .int .i64 (wrap64 (Go.bits .and .u8 (rd l0 1) 15)), .int .i64 (wrap64 ((rd l0 1) / 16)), .int .i64 t159, .int .i64 t161]] rfl (by (try simp only [List.map_toArray, List.map_cons, List.map_nil]); first | done | rfl | (simp only [List.length_drop, List.length_take]; rfl)) ?_; (with_reducible refine (insn_Size.calls (wrap64 (rd l0 0)) (wrap64 (Go.bits .and .u8 (rd l0 1) 15)) (wrap64 ((rd l0 1) / 16)) t159 t161 t163 _ A13.out).mono ?_); rintro e w29 ⟨rfl, hb⟩; refine ⟨_, rfl, ?_⟩; have n0_ := Aside0.mk (blk_below (g := gb154) (o := .cells #[.int .i64 0, .int .i64 0, .int .i64 0, .int .i64 0, .int .i64 0] 40 (0, 0)) (by (with_reducible repeat (first | apply bN_ | apply bD_ | apply bA_)); refine blk_far ?_ NB154_162.out _; (with_reducible repeat (first | apply bN_ | apply bD_ | apply bA_)); refine blk_far ?_ NB154_162.out _; (with_reducible repeat (first | apply bN_ | apply bD_ | apply bA_)); refine blk_far ?_ NB154_162.out _; (with_reducible repeat (first | apply bN_ | apply bD_ | apply bA_)); refine blk_far ?_ NB154_162.out _; (with_reducible repeat (first | apply bN_ | apply bD_ | apply bA_)); refine blk_far ?_ NB154_162.out _; exact bk_) hb); have n1_ := Aside0.mk (blk_below (g := gb162) (o := .cells #[.int .i64 (wrap64 (rd l0 0)), .int .i64 (wrap64 (Go.bits .and .u8 (rd l0 1) 15)), .int .i64 (wrap64 ((rd l0 1) / 16)), .int .i64 t159, .int .i64 t161] 40 (0, 0)) (by (with_reducible repeat (first | apply bN_ | apply bD_ | apply bA_)); refine blk_put (cs := #[.int .i64 (wrap64 (rd l0 0)), .int .i64 (wrap64 (Go.bits .and .u8 (rd l0 1) 15)), .int .i64 (wrap64 ((rd l0 1) / 16)), .int .i64 t159, .int .i64 0]) ?_ 4 _ rfl; (with_reducible repeat (first | apply bN_ | apply bD_ | apply bA_)); refine blk_put (cs := #[.int .i64 (wrap64 (rd l0 0)), .int .i64 (wrap64 (Go.bits .and .u8 (rd l0 1) 15)), .int .i64 (wrap64 ((rd l0 1) / 16)), .int .i64 0, .int .i64 0]) ?_ 3 _ rfl; (with_reducible repeat (first | apply bN_ | apply bD_ | apply bA_)); refine blk_put (cs := #[.int .i64 (wrap64 (rd l0 0)), .int .i64 (wrap64 (Go.bits .and .u8 (rd l0 1) 15)), .int .i64 0, .int .i64 0, .int .i64 0]) ?_ 2 _ rfl; (with_reducible repeat (first | apply bN_ | apply bD_ | apply bA_)); refine blk_put (cs := #[.int .i64 (wrap64 (rd l0 0)), .int .i64 0, .int .i64 0, .int .i64 0, .int .i64 0]) ?_ 1 _ rfl; (with_reducible repeat (first | apply bN_ | apply bD_ | apply bA_)); refine blk_put (cs := #[.int .i64 0, .int .i64 0, .int .i64 0, .int .i64 0, .int .i64 0]) ?_ 0 _ rfl; exact bk_) hb); have n2_ := bl_ hb; clear BK154; clear BK162; clear HB; have BK154 := n0_; have BK162 := n1_; have HB := n2_; clear n0_ n1_ n2_; (try clear hb); obtain ⟨zc30_0, zc30_1, zc30_2, zc30_3, zc30_4, zf30_0, zf30_1, zf30_2, zf30_3, zf30_4⟩ := k5_ BK154))
  refine bodyPost_ret (results_ctt rfl _ _ gb154 40 #[.int .i64 0, .int .i64 0, .int .i64 0, .int .i64 0, .int .i64 0] (0, 0) _ rfl (by (with_reducible repeat (first | apply bN_ | apply bD_ | apply bA_)); refine blk_put (cs := #[.int .i64 0, .int .i64 0, .int .i64 0, .int .i64 0, .int .i64 0]) ?_ 4 _ rfl; (with_reducible repeat (first | apply bN_ | apply bD_ | apply bA_)); refine blk_put (cs := #[.int .i64 0, .int .i64 0, .int .i64 0, .int .i64 0, .int .i64 0]) ?_ 3 _ rfl; (with_reducible repeat (first | apply bN_ | apply bD_ | apply bA_)); refine blk_put (cs := #[.int .i64 0, .int .i64 0, .int .i64 0, .int .i64 0, .int .i64 0]) ?_ 2 _ rfl; (with_reducible repeat (first | apply bN_ | apply bD_ | apply bA_)); refine blk_put (cs := #[.int .i64 0, .int .i64 0, .int .i64 0, .int .i64 0, .int .i64 0]) ?_ 1 _ rfl; (with_reducible repeat (first | apply bN_ | apply bD_ | apply bA_)); refine blk_put (cs := #[.int .i64 0, .int .i64 0, .int .i64 0, .int .i64 0, .int .i64 0]) ?_ 0 _ rfl; exact bk_) Try.underlying40 rfl (by kernel_rfl)) rfl ?_
  exact ⟨vv_, bz_⟩
 rw [if_neg c15] at H
 have c15b0 : decide ((l0.length : Int) < (wrap64 (8 * t163))) = false := decide_eq_false c15
 clear c15
 by_cases c31 : 8 ≤ 12
 rotate_left
 ·rw [if_neg c31] at H
  exact absurd H (by simp)
 rw [if_pos c31] at H
 have c31b0 := eq_true c31
 have c31b1 : decide (8 ≤ 12) = true := decide_eq_true c31
 clear c31
 by_cases c32 : 12 ≤ (l0.length : Int)
 rotate_left
 ·rw [if_neg c32] at H
  exact absurd H (by simp)
 rw [if_pos c32] at H
 have c32b0 := eq_true c32
 have c32b1 : decide (12 ≤ (l0.length : Int)) = true := decide_eq_true c32
 clear c32
 replace H := Option.bind_eq_some_iff.mp H
 obtain ⟨t165, A330, H⟩ := H
 (try dsimp only at H)
 have A33 := Aside0.mk A330
 clear A330
 by_cases c34 : t165 = 0
 rotate_left
 ·rw [if_neg c34] at H
  have c34b0 : (t165 == 0) = false := beq_eq_false_iff_ne.mpr c34
  have c34b1 : (t165 != 0) = true := bne_iff_ne.mpr c34
  simp only [Option.some.injEq, Prod.mk.injEq] at H
  obtain ⟨rfl, rfl, rfl, rfl, rfl, rfl, rfl⟩ := H
  go_enter Try.func37, Try.ntmps37
  try go_wp2_with (first | ((with_reducible refine gate_dst (N := 2) rfl ?_); refine bx_ 2 #[.int .i64 0, .int .i64 0, .int .i64 0, .int .i64 0, .int .i64 0] 40 ?_; intro gb154 hg w65 BK154 hb; have GW154 := bg_ hg; have GE154 := GW154; replace HB := bl_ hb; clear hb hg))
  replace BK154 := Aside0.mk (blk_drew BK154.out)
  replace HB := Aside0.mk (below_drew1 HB.out)
  have p155 : 0 ≤ (0 : Int) := (by omega)
  have q155 : 0 < (l0.length : Int) := of_decide_eq_true as_
  obtain ⟨ad155, e155, hx155_0⟩ := Kd.at_int HR0.out 0 p155 q155
  have hw155_0 := hx155_0
  (try rw [show ((0 : Int)).toNat = 0 from rfl] at hw155_0)
  (try rw [show 0 * 1 = 0 from rfl] at hw155_0)
  (try rw [Addr.add_zero'] at hw155_0)
  cases e155
  have qi155 : (0 < l0.length) = True := eq_true (by omega)
  (try rw [show ((0 : Int)).toNat = 0 from rfl] at hx155_0)
  (try rw [Addr.add_zero'] at hx155_0)
  replace hx155_0 := (hc_ HB hx155_0 :)
  replace p155 := eq_true p155
  replace q155 := eq_true q155
  have p156 : 0 ≤ (1 : Int) := (by omega)
  have q156 : 1 < (l0.length : Int) := of_decide_eq_true as_
  obtain ⟨ad156, e156, hx156_0⟩ := Kd.at_int HR0.out 1 p156 q156
  have hw156_0 := hx156_0
  (try rw [show ((1 : Int)).toNat = 1 from rfl] at hw156_0)
  (try rw [show 1 * 1 = 1 from rfl] at hw156_0)
  (try simp only [Nat.reduceMul, Nat.reduceEqDiff, Go.Addr.add, ↓reduceIte] at hw156_0)
  obtain rfl : ad155 = ad156 := (by injection e156)
  (try simp only [show (1 : Int).toNat = 1 from rfl, Nat.reduceMul, Nat.reduceEqDiff, Go.Addr.add, ↓reduceIte] at hx156_0)
  have qi156 : (1 < l0.length) = True := eq_true (by omega)
  (try rw [show ((1 : Int)).toNat = 1 from rfl] at hx156_0)
  replace hx156_0 := (hc_ HB hx156_0 :)
  replace p156 := eq_true p156
  replace q156 := eq_true q156
  have p157 : 0 ≤ (1 : Int) := (by omega)
  have q157 : 1 < (l0.length : Int) := of_decide_eq_true as_
  obtain ⟨ad157, e157, hx157_0⟩ := Kd.at_int HR0.out 1 p157 q157
  have hw157_0 := hx157_0
  (try rw [show ((1 : Int)).toNat = 1 from rfl] at hw157_0)
  (try rw [show 1 * 1 = 1 from rfl] at hw157_0)
  (try simp only [Nat.reduceMul, Nat.reduceEqDiff, Go.Addr.add, ↓reduceIte] at hw157_0)
  obtain rfl : ad155 = ad157 := (by injection e157)
  (try simp only [show (1 : Int).toNat = 1 from rfl, Nat.reduceMul, Nat.reduceEqDiff, Go.Addr.add, ↓reduceIte] at hx157_0)
  have qi157 : (1 < l0.length) = True := eq_true (by omega)
  (try rw [show ((1 : Int)).toNat = 1 from rfl] at hx157_0)
  replace hx157_0 := (hc_ HB hx157_0 :)
  replace p157 := eq_true p157
  replace q157 := eq_true q157
  obtain ⟨i067, hi067, _, hsz67, _⟩ := info_parts info5
  obtain ⟨A67, hcut67, hA67, hC67⟩ := print_mid_of (P := Try.prog) (Value.int .u8) 0 25 5 .i64 .i64 Try.underlying25 hi067 hsz67 (some ad155) c0 l0 2 4 (by omega) (by first | omega | exact of_decide_eq_true as_) (of_decide_eq_true as_) HC0.out
  have HR158 := Aside0.mk (Kd.C_of_reads (h1 := fun _ => rfl) (hA67 _ (Kd.reads_of_C HR0.out)))
  have HC158 := Aside0.mk hC67
  clear hA67 hC67 hi067 hsz67
  obtain ⟨i068, hi068, _, hsz68, _⟩ := info_parts info5
  obtain ⟨A68, hcut68, hA68, hC68⟩ := print_mid_of (P := Try.prog) (Value.int .u8) 0 25 5 .i64 .i64 Try.underlying25 hi068 hsz68 (some ad155) c0 l0 4 8 (by omega) (by first | omega | exact of_decide_eq_true as_) (of_decide_eq_true as_) HC0.out
  have HR160 := Aside0.mk (Kd.C_of_reads (h1 := fun _ => rfl) (hA68 _ (Kd.reads_of_C HR0.out)))
  have HC160 := Aside0.mk hC68
  clear hA68 hC68 hi068 hsz68
  refine start_ (n := 23) (S := fun w' => w'.cell? ad155 = some (.int .u8 (rd l0 0)) ∧ w'.cell? ⟨ad155.block, ad155.off + 1, none⟩ = some (.int .u8 (rd l0 1)) ∧ w'.cell? ⟨ad155.block, ad155.off + 1, none⟩ = some (.int .u8 (rd l0 1))) (ds := []) #[Z,Z,Z,Z,Z,Z,Z,Z,Z,Z,Z,Z,Z,Z,Z,Z,Z,Z,Z,Z,Z,Z,Z] (by kernel_rfl) rfl rfl ⟨(hc_ HB hw155_0 :), (hc_ HB hw156_0 :), (hc_ HB hw157_0 :)⟩ (fun hHeld => ?_); refine with_tabW insn_first.tab3 insn_first.bits3 (fun HT_ HW_ => ?_)
  generalize w65.drew = w66 at BK154 HB HR158 HR160 hx155_0 hx156_0 hx157_0 hHeld ⊢
  refine pq_ 0 11 #[Y,Z,Z,Z,Z,Z,Z,Z,Z,Z,Z,Z,Z,Z,Z,Z,Z,Z,Z,Z,Z,Z,Z] ?_
  refine pq_ 1 12 #[Y,Y,Z,Z,Z,Z,Z,Z,Z,Z,Z,Z,Z,Z,Z,Z,Z,Z,Z,Z,Z,Z,Z] ?_
  refine pq_ 4 15 #[Y,Y,Z,Z,Y,Z,Z,Z,Z,Z,Z,Z,Z,Z,Z,Z,Z,Z,Z,Z,Z,Z,Z] ?_
  refine pq_ 5 16 #[Y,Y,Z,Z,Y,Y,Z,Z,Z,Z,Z,Z,Z,Z,Z,Z,Z,Z,Z,Z,Z,Z,Z] ?_
  refine pq_ 9 20 #[Y,Y,Z,Z,Y,Y,Z,Z,Z,Y,Z,Z,Z,Z,Z,Z,Z,Z,Z,Z,Z,Z,Z] ?_
  refine pq_ 10 21 #[Y,Y,Z,Z,Y,Y,Z,Z,Z,Y,Y,Z,Z,Z,Z,Z,Z,Z,Z,Z,Z,Z,Z] ?_
  refine pq_ 14 25 #[Y,Y,Z,Z,Y,Y,Z,Z,Z,Y,Y,Z,Z,Z,Y,Z,Z,Z,Z,Z,Z,Z,Z] ?_
  refine pq_ 15 26 #[Y,Y,Z,Z,Y,Y,Z,Z,Z,Y,Y,Z,Z,Z,Y,Y,Z,Z,Z,Z,Z,Z,Z] ?_
  refine pq_ 17 28 #[Y,Y,Z,Z,Y,Y,Z,Z,Z,Y,Y,Z,Z,Z,Y,Y,Z,Y,Z,Z,Z,Z,Z] ?_
  refine pq_ 18 29 #[Y,Y,Z,Z,Y,Y,Z,Z,Z,Y,Y,Z,Z,Z,Y,Y,Z,Y,Y,Z,Z,Z,Z] ?_
  refine tq1_ 2 13 #[Y,Y,Y,Z,Y,Y,Z,Z,Z,Y,Y,Z,Z,Z,Y,Y,Z,Y,Y,Z,Z,Z,Z] hHeld ?_
  refine pq_ 3 14 #[Y,Y,Y,Y,Y,Y,Z,Z,Z,Y,Y,Z,Z,Z,Y,Y,Z,Y,Y,Z,Z,Z,Z] ?_
  refine tq1_ 6 17 #[Y,Y,Y,Y,Y,Y,Y,Z,Z,Y,Y,Z,Z,Z,Y,Y,Z,Y,Y,Z,Z,Z,Z] hHeld ?_
  refine pq_ 7 18 #[Y,Y,Y,Y,Y,Y,Y,Y,Z,Y,Y,Z,Z,Z,Y,Y,Z,Y,Y,Z,Z,Z,Z] ?_
  refine pq_ 8 19 #[Y,Y,Y,Y,Y,Y,Y,Y,Y,Y,Y,Z,Z,Z,Y,Y,Z,Y,Y,Z,Z,Z,Z] ?_
  refine tq1_ 11 22 #[Y,Y,Y,Y,Y,Y,Y,Y,Y,Y,Y,Y,Z,Z,Y,Y,Z,Y,Y,Z,Z,Z,Z] hHeld ?_
  refine pq_ 12 23 #[Y,Y,Y,Y,Y,Y,Y,Y,Y,Y,Y,Y,Y,Z,Y,Y,Z,Y,Y,Z,Z,Z,Z] ?_
  refine pq_ 13 24 #[Y,Y,Y,Y,Y,Y,Y,Y,Y,Y,Y,Y,Y,Y,Y,Y,Z,Y,Y,Z,Z,Z,Z] ?_
  refine join_ (σ := Nat) 1 #[Y,Y,Y,Y,Y,Y,Y,Y,Y,Y,Y,Y,Y,Y,Y,Y,Y,Y,Y,Y,Y,Y,Z] (fun s_ => [(27, .int .i64 t159), (30, .int .i64 t161), (5, .pointer (some ⟨s_, 0, none⟩)), (31, .agg #[.int .i64 (wrap64 (rd l0 0)), .int .i64 (wrap64 (Go.bits .and .u8 (rd l0 1) 15)), .int .i64 (wrap64 ((rd l0 1) / 16)), .int .i64 t159, .int .i64 t161])]) (fun s_ w' => (w'.cell? ad155 = some (.int .u8 (rd l0 0)) ∧ w'.cell? ⟨ad155.block, ad155.off + 1, none⟩ = some (.int .u8 (rd l0 1)) ∧ w'.cell? ⟨ad155.block, ad155.off + 1, none⟩ = some (.int .u8 (rd l0 1))) ∧ (w'.heap[gb154]? = some (.cells #[.int .i64 0, .int .i64 0, .int .i64 0, .int .i64 0, .int .i64 0] 40 (0, 0))) ∧ (w'.heap[s_]? = some (.cells #[.int .i64 0, .int .i64 0, .int .i64 0, .int .i64 0, .int .i64 0] 40 (0, 0))) ∧ (w.heap.size ≤ s_) ∧ (w.heap.size ≤ s_) ∧ (gb154 ≠ s_) ∧ (s_ ≠ gb154) ∧ (Below w.heap.size w w')) ?_ ?_
  rotate_left
  ·intro hCont
   refine two_ (i := 16) (j := 21) (Ni := some 27) (Nj := some 5) #[Y,Y,Y,Y,Y,Y,Y,Y,Y,Y,Y,Y,Y,Y,Y,Y,Y,Y,Y,Z,Z,Z,Z] #[Y,Y,Y,Y,Y,Y,Y,Y,Y,Y,Y,Y,Y,Y,Y,Y,Z,Y,Y,Z,Z,Y,Z] rfl rfl rfl rfl (two_of HT_.out (by kernel_rfl)) (by decide) (by decide) (fun K hK => ?_) (fun K hK => ?_)
   rotate_left
   ·skip
    refine box_step ?hg (N := 5) ?hd (cs := #[.int .i64 0, .int .i64 0, .int .i64 0, .int .i64 0, .int .i64 0]) (t := 40) ?hr ?_; (case hd => rfl); (case hg => rfl); (case hr => first | (go_simp; done) | (go_simp; rfl))
    intro gb162 hg w69 hbox hb
    have BK162 := Aside0.mk (hbox)
    have GW162 := bg_ hg
    have GE162 := GW162
    have NB154_162 := bm_ hg BK154
    have NB162_154 := bn_ hg BK154
    replace BK154 := bb_ hb BK154
    replace HB := bl_ hb
    clear hb hbox hg
    refine hK.out _ _ ⟨(hc_ HB hw155_0 :), (hc_ HB hw156_0 :), (hc_ HB hw157_0 :)⟩ (fun hHeld => ?_)
    clear hK K
    refine norm_ (a' := ?_) ?_ ?_
    rotate_left
    ·show Act.put _ (some 5) _ = _
     simp only [Act.put, s1_, s2_, s3_, i64_w, i32_w]
     rfl
    refine one_ (i := 16) (N := some 27) #[Y,Y,Y,Y,Y,Y,Y,Y,Y,Y,Y,Y,Y,Y,Y,Y,Y,Y,Y,Z,Z,Y,Z] rfl rfl (one_of HT_.out (by kernel_rfl)) (by decide) (fun K hK => ?_)
    refine goes_ Try.func45 (by kernel_rfl) rfl #[.slice A67 ((l0.take 4).drop 2).length (c0 - 2)] (by rfl) rfl rfl (by (try simp only [List.map_toArray, List.map_cons, List.map_nil]); first | done | (rw [show ((l0.take 4).drop 2).length = (4 - 2) from (by rw [List.length_drop, List.length_take]; have h_ : (4 : Int) ≤ (l0.length : Int) := of_decide_eq_true as_; omega)] <;> rfl) | rfl | (simp only [List.length_drop, List.length_take]; rfl)) ?_
    with_reducible refine (insn_number.calls k _ _ ((l0.take 4).drop 2) t159 _ ?side1 ?side2 A9.out).mono ?_
    (case side1 => exact ca_ (Kd.C_below HR158.out HB.out))
    (case side2 => exact HC158.out)
    rintro e w' ⟨rfl, ⟨nd, rfl⟩⟩
    refine ⟨_, rfl, ?_⟩
    refine hK.out _ _ ⟨(hc_ HB hw155_0 :), (hc_ HB hw156_0 :), (hc_ HB hw157_0 :)⟩ (fun hHeld => ?_)
    clear hK K
    refine norm_ (a' := ?_) ?_ ?_
    rotate_left
    ·show Act.put _ (some 27) _ = _
     simp only [Act.put, s1_, s2_, s3_, i64_w, i32_w]
     rfl
    refine one_ (i := 19) (N := some 30) #[Y,Y,Y,Y,Y,Y,Y,Y,Y,Y,Y,Y,Y,Y,Y,Y,Y,Y,Y,Y,Z,Y,Z] rfl rfl (one_of HT_.out (by kernel_rfl)) (by decide) (fun K hK => ?_)
    refine goes_ Try.func45 (by kernel_rfl) rfl #[.slice A68 ((l0.take 8).drop 4).length (c0 - 4)] (by rfl) rfl rfl (by (try simp only [List.map_toArray, List.map_cons, List.map_nil]); first | done | (rw [show ((l0.take 8).drop 4).length = (8 - 4) from (by rw [List.length_drop, List.length_take]; have h_ : (8 : Int) ≤ (l0.length : Int) := of_decide_eq_true as_; omega)] <;> rfl) | rfl | (simp only [List.length_drop, List.length_take]; rfl)) ?_
    with_reducible refine (insn_number.calls k _ _ ((l0.take 8).drop 4) t161 _ ?side1 ?side2 A12.out).mono ?_
    (case side1 => exact ca_ (Kd.C_below HR160.out bz_))
    (case side2 => exact HC160.out)
    rintro e w' ⟨rfl, ⟨nd, rfl⟩⟩
    refine ⟨_, rfl, ?_⟩
    refine hK.out _ _ ⟨(hc_ HB hw155_0 :), (hc_ HB hw156_0 :), (hc_ HB hw157_0 :)⟩ (fun hHeld => ?_)
    clear hK K
    refine norm_ (a' := ?_) ?_ ?_
    rotate_left
    ·show Act.put _ (some 30) _ = _
     simp only [Act.put, s1_, s2_, s3_, i64_w, i32_w]
     rfl
    refine pq_ 20 31 #[Y,Y,Y,Y,Y,Y,Y,Y,Y,Y,Y,Y,Y,Y,Y,Y,Y,Y,Y,Y,Y,Y,Z] ?_
    exact norm_ (by simp only [putAll, Act.put, List.setIfInBounds_toArray, List.set_cons_zero, List.set_cons_succ]) (hCont (gb162) _ ⟨hHeld, bk_, bk_, GW162.out, GE162.out, NB154_162.out, NB162_154.out, bz_⟩)
   refine goes_ Try.func45 (by kernel_rfl) rfl #[.slice A67 ((l0.take 4).drop 2).length (c0 - 2)] (by rfl) rfl rfl (by (try simp only [List.map_toArray, List.map_cons, List.map_nil]); first | done | (rw [show ((l0.take 4).drop 2).length = (4 - 2) from (by rw [List.length_drop, List.length_take]; have h_ : (4 : Int) ≤ (l0.length : Int) := of_decide_eq_true as_; omega)] <;> rfl) | rfl | (simp only [List.length_drop, List.length_take]; rfl)) ?_
   with_reducible refine (insn_number.calls k _ _ ((l0.take 4).drop 2) t159 _ ?side1 ?side2 A9.out).mono ?_
   (case side1 => exact ca_ (Kd.C_below HR158.out HB.out))
   (case side2 => exact HC158.out)
   rintro e w' ⟨rfl, ⟨nd, rfl⟩⟩
   refine ⟨_, rfl, ?_⟩
   refine hK.out _ _ ⟨(hc_ HB hw155_0 :), (hc_ HB hw156_0 :), (hc_ HB hw157_0 :)⟩ (fun hHeld => ?_)
   clear hK K
   refine norm_ (a' := ?_) ?_ ?_
   rotate_left
   ·show Act.put _ (some 27) _ = _
    simp only [Act.put, s1_, s2_, s3_, i64_w, i32_w]
    rfl
   refine two_ (i := 19) (j := 21) (Ni := some 30) (Nj := some 5) #[Y,Y,Y,Y,Y,Y,Y,Y,Y,Y,Y,Y,Y,Y,Y,Y,Y,Y,Y,Y,Z,Z,Z] #[Y,Y,Y,Y,Y,Y,Y,Y,Y,Y,Y,Y,Y,Y,Y,Y,Y,Y,Y,Z,Z,Y,Z] rfl rfl rfl rfl (two_of HT_.out (by kernel_rfl)) (by decide) (by decide) (fun K hK => ?_) (fun K hK => ?_)
   ·skip
    refine goes_ Try.func45 (by kernel_rfl) rfl #[.slice A68 ((l0.take 8).drop 4).length (c0 - 4)] (by rfl) rfl rfl (by (try simp only [List.map_toArray, List.map_cons, List.map_nil]); first | done | (rw [show ((l0.take 8).drop 4).length = (8 - 4) from (by rw [List.length_drop, List.length_take]; have h_ : (8 : Int) ≤ (l0.length : Int) := of_decide_eq_true as_; omega)] <;> rfl) | rfl | (simp only [List.length_drop, List.length_take]; rfl)) ?_
    with_reducible refine (insn_number.calls k _ _ ((l0.take 8).drop 4) t161 _ ?side1 ?side2 A12.out).mono ?_
    (case side1 => exact ca_ (Kd.C_below HR160.out bz_))
    (case side2 => exact HC160.out)
    rintro e w' ⟨rfl, ⟨nd, rfl⟩⟩
    refine ⟨_, rfl, ?_⟩
    refine hK.out _ _ ⟨(hc_ HB hw155_0 :), (hc_ HB hw156_0 :), (hc_ HB hw157_0 :)⟩ (fun hHeld => ?_)
    clear hK K
    refine norm_ (a' := ?_) ?_ ?_
    rotate_left
    ·show Act.put _ (some 30) _ = _
     simp only [Act.put, s1_, s2_, s3_, i64_w, i32_w]
     rfl
    refine pq_ 20 31 #[Y,Y,Y,Y,Y,Y,Y,Y,Y,Y,Y,Y,Y,Y,Y,Y,Y,Y,Y,Y,Y,Z,Z] ?_
    refine one_ (i := 21) (N := some 5) #[Y,Y,Y,Y,Y,Y,Y,Y,Y,Y,Y,Y,Y,Y,Y,Y,Y,Y,Y,Y,Y,Y,Z] rfl rfl (one_of HT_.out (by kernel_rfl)) (by decide) (fun K hK => ?_)
    refine box_step ?hg (N := 5) ?hd (cs := #[.int .i64 0, .int .i64 0, .int .i64 0, .int .i64 0, .int .i64 0]) (t := 40) ?hr ?_; (case hd => rfl); (case hg => rfl); (case hr => first | (go_simp; done) | (go_simp; rfl))
    intro gb162 hg w69 hbox hb
    have BK162 := Aside0.mk (hbox)
    have GW162 := bg_ hg
    have GE162 := GW162
    have NB154_162 := bm_ hg BK154
    have NB162_154 := bn_ hg BK154
    replace BK154 := bb_ hb BK154
    replace HB := bl_ hb
    clear hb hbox hg
    refine hK.out _ _ ⟨(hc_ HB hw155_0 :), (hc_ HB hw156_0 :), (hc_ HB hw157_0 :)⟩ (fun hHeld => ?_)
    clear hK K
    refine norm_ (a' := ?_) ?_ ?_
    rotate_left
    ·show Act.put _ (some 5) _ = _
     simp only [Act.put, s1_, s2_, s3_, i64_w, i32_w]
     rfl
    exact norm_ (by simp only [putAll, Act.put, List.setIfInBounds_toArray, List.set_cons_zero, List.set_cons_succ]) (hCont (gb162) _ ⟨hHeld, bk_, bk_, GW162.out, GE162.out, NB154_162.out, NB162_154.out, bz_⟩)
   refine box_step ?hg (N := 5) ?hd (cs := #[.int .i64 0, .int .i64 0, .int .i64 0, .int .i64 0, .int .i64 0]) (t := 40) ?hr ?_; (case hd => rfl); (case hg => rfl); (case hr => first | (go_simp; done) | (go_simp; rfl))
   intro gb162 hg w69 hbox hb
   have BK162 := Aside0.mk (hbox)
   have GW162 := bg_ hg
   have GE162 := GW162
   have NB154_162 := bm_ hg BK154
   have NB162_154 := bn_ hg BK154
   replace BK154 := bb_ hb BK154
   replace HB := bl_ hb
   clear hb hbox hg
   refine hK.out _ _ ⟨(hc_ HB hw155_0 :), (hc_ HB hw156_0 :), (hc_ HB hw157_0 :)⟩ (fun hHeld => ?_)
   clear hK K
   refine norm_ (a' := ?_) ?_ ?_
   rotate_left
   ·show Act.put _ (some 5) _ = _
    simp only [Act.put, s1_, s2_, s3_, i64_w, i32_w]
    rfl
   refine one_ (i := 19) (N := some 30) #[Y,Y,Y,Y,Y,Y,Y,Y,Y,Y,Y,Y,Y,Y,Y,Y,Y,Y,Y,Y,Z,Y,Z] rfl rfl (one_of HT_.out (by kernel_rfl)) (by decide) (fun K hK => ?_)
   refine goes_ Try.func45 (by kernel_rfl) rfl #[.slice A68 ((l0.take 8).drop 4).length (c0 - 4)] (by rfl) rfl rfl (by (try simp only [List.map_toArray, List.map_cons, List.map_nil]); first | done | (rw [show ((l0.take 8).drop 4).length = (8 - 4) from (by rw [List.length_drop, List.length_take]; have h_ : (8 : Int) ≤ (l0.length : Int) := of_decide_eq_true as_; omega)] <;> rfl) | rfl | (simp only [List.length_drop, List.length_take]; rfl)) ?_
   with_reducible refine (insn_number.calls k _ _ ((l0.take 8).drop 4) t161 _ ?side1 ?side2 A12.out).mono ?_
   (case side1 => exact ca_ (Kd.C_below HR160.out HB.out))
   (case side2 => exact HC160.out)
   rintro e w' ⟨rfl, ⟨nd, rfl⟩⟩
   refine ⟨_, rfl, ?_⟩
   refine hK.out _ _ ⟨(hc_ HB hw155_0 :), (hc_ HB hw156_0 :), (hc_ HB hw157_0 :)⟩ (fun hHeld => ?_)
   clear hK K
   refine norm_ (a' := ?_) ?_ ?_
   rotate_left
   ·show Act.put _ (some 30) _ = _
    simp only [Act.put, s1_, s2_, s3_, i64_w, i32_w]
    rfl
   refine pq_ 20 31 #[Y,Y,Y,Y,Y,Y,Y,Y,Y,Y,Y,Y,Y,Y,Y,Y,Y,Y,Y,Y,Y,Y,Z] ?_
   exact norm_ (by simp only [putAll, Act.put, List.setIfInBounds_toArray, List.set_cons_zero, List.set_cons_succ]) (hCont (gb162) _ ⟨hHeld, bk_, bk_, GW162.out, GE162.out, NB154_162.out, NB162_154.out, bz_⟩)
  rintro gb162 w70 ⟨hS_, h0_, h1_, h2_, h3_, h4_, h5_, h6_⟩
  have n0_ : Aside0 (w70.heap[gb154]? = some (.cells #[.int .i64 0, .int .i64 0, .int .i64 0, .int .i64 0, .int .i64 0] 40 (0, 0))) := ⟨h0_⟩
  have n1_ : Aside0 (w70.heap[gb162]? = some (.cells #[.int .i64 0, .int .i64 0, .int .i64 0, .int .i64 0, .int .i64 0] 40 (0, 0))) := ⟨h1_⟩
  have n2_ : Aside0 (w.heap.size ≤ gb162) := ⟨h2_⟩
  have n3_ : Aside0 (w.heap.size ≤ gb162) := ⟨h3_⟩
  have n4_ : Aside0 (gb154 ≠ gb162) := ⟨h4_⟩
  have n5_ : Aside0 (gb162 ≠ gb154) := ⟨h5_⟩
  have n6_ : Aside0 (Below w.heap.size w w70) := ⟨h6_⟩
  clear BK154
  clear HB
  clear h0_ h1_ h2_ h3_ h4_ h5_ h6_
  have BK154 := n0_
  have BK162 := n1_
  have GW162 := n2_
  have GE162 := n3_
  have NB154_162 := n4_
  have NB162_154 := n5_
  have HB := n6_
  clear n0_ n1_ n2_ n3_ n4_ n5_ n6_
  have hHeld : w70.cell? ad155 = some (.int .u8 (rd l0 0)) ∧ w70.cell? ⟨ad155.block, ad155.off + 1, none⟩ = some (.int .u8 (rd l0 1)) ∧ w70.cell? ⟨ad155.block, ad155.off + 1, none⟩ = some (.int .u8 (rd l0 1)) := hS_
  refine norm_ (a' := ?_) ?_ ?_
  rotate_left
  ·simp only [putAll, Act.put, List.setIfInBounds_toArray, List.set_cons_zero, List.set_cons_succ]
   rfl
  refine one_ (i := 22) (N := none) #[Y,Y,Y,Y,Y,Y,Y,Y,Y,Y,Y,Y,Y,Y,Y,Y,Y,Y,Y,Y,Y,Y,Y] rfl rfl (one_of HT_.out (by kernel_rfl)) (by decide) (fun K hK => ?_)
  obtain ⟨hs71, hfs71⟩ := k1_ BK162
  have hns71_0 := NB154_162.out
  have hms71_0 := NB162_154.out
  have hs72 := c1_ BK162
  have hfs72 := fz_ BK162 1
  have hns72_0 := NB154_162.out
  have hms72_0 := NB162_154.out
  have hs73 := c2_ BK162
  have hfs73 := fz_ BK162 2
  have hns73_0 := NB154_162.out
  have hms73_0 := NB162_154.out
  have hs74 := c3_ BK162
  have hfs74 := fz_ BK162 3
  have hns74_0 := NB154_162.out
  have hms74_0 := NB162_154.out
  have hs75 := c4_ BK162
  have hfs75 := fz_ BK162 4
  have hns75_0 := NB154_162.out
  have hms75_0 := NB162_154.out
  refine skip_ (w1 := ?_) (by rfl) rfl ?_ ?_
  rotate_left
  ·go_simp
   rfl
  refine hK.out _ _ ⟨((cell_far (p := ⟨gb162, _, none⟩) (nf_ hw155_0 GW162) _).trans (((cell_far (p := ⟨gb162, _, none⟩) (nf_ hw155_0 GW162) _).trans (((cell_far (p := ⟨gb162, _, none⟩) (nf_ hw155_0 GW162) _).trans (((cell_far (p := ⟨gb162, _, none⟩) (nf_ hw155_0 GW162) _).trans (((cell_far (p := ⟨gb162, _, none⟩) (nf_ hw155_0 GW162) _).trans (hHeld.1)))))))))), ((cell_far (p := ⟨gb162, _, none⟩) (nf_ hw156_0 GW162) _).trans (((cell_far (p := ⟨gb162, _, none⟩) (nf_ hw156_0 GW162) _).trans (((cell_far (p := ⟨gb162, _, none⟩) (nf_ hw156_0 GW162) _).trans (((cell_far (p := ⟨gb162, _, none⟩) (nf_ hw156_0 GW162) _).trans (((cell_far (p := ⟨gb162, _, none⟩) (nf_ hw156_0 GW162) _).trans (hHeld.2.1)))))))))), ((cell_far (p := ⟨gb162, _, none⟩) (nf_ hw157_0 GW162) _).trans (((cell_far (p := ⟨gb162, _, none⟩) (nf_ hw157_0 GW162) _).trans (((cell_far (p := ⟨gb162, _, none⟩) (nf_ hw157_0 GW162) _).trans (((cell_far (p := ⟨gb162, _, none⟩) (nf_ hw157_0 GW162) _).trans (((cell_far (p := ⟨gb162, _, none⟩) (nf_ hw157_0 GW162) _).trans (hHeld.2.2))))))))))⟩ (fun hHeld => ?_)
  clear hK K
  refine done_ (done_of HT_.out (by kernel_rfl)) ?_
  have hnb76 := NB162_154.out
  have hnc76 := NB154_162.out
  obtain ⟨zc77_0, zc77_1, zc77_2, zc77_3, zc77_4, zf77_0, zf77_1, zf77_2, zf77_3, zf77_4⟩ := k5_ BK162
  try go_wp2_with (first | ((with_reducible refine gate_callee (f := 24) rfl ?_); refine goesL_ (some 33) rfl rfl Try.func24 (by kernel_rfl) rfl #[.agg #[.int .i64 (wrap64 (rd l0 0)), .int .i64 (wrap64 (Go.bits .and .u8 (rd l0 1) 15)), .int .i64 (wrap64 ((rd l0 1) / 16)), .int .i64 t159, .int .i64 t161]] rfl (by (try simp only [List.map_toArray, List.map_cons, List.map_nil]); first | done | rfl | (simp only [List.length_drop, List.length_take]; rfl)) ?_; (with_reducible refine (insn_Size.calls (wrap64 (rd l0 0)) (wrap64 (Go.bits .and .u8 (rd l0 1) 15)) (wrap64 ((rd l0 1) / 16)) t159 t161 t163 _ A13.out).mono ?_); rintro e w78 ⟨rfl, hb⟩; refine ⟨_, rfl, ?_⟩; have n0_ := Aside0.mk (blk_below (g := gb154) (o := .cells #[.int .i64 0, .int .i64 0, .int .i64 0, .int .i64 0, .int .i64 0] 40 (0, 0)) (by (with_reducible repeat (first | apply bN_ | apply bD_ | apply bA_)); refine blk_far ?_ NB154_162.out _; (with_reducible repeat (first | apply bN_ | apply bD_ | apply bA_)); refine blk_far ?_ NB154_162.out _; (with_reducible repeat (first | apply bN_ | apply bD_ | apply bA_)); refine blk_far ?_ NB154_162.out _; (with_reducible repeat (first | apply bN_ | apply bD_ | apply bA_)); refine blk_far ?_ NB154_162.out _; (with_reducible repeat (first | apply bN_ | apply bD_ | apply bA_)); refine blk_far ?_ NB154_162.out _; exact bk_) hb); have n1_ := Aside0.mk (blk_below (g := gb162) (o := .cells #[.int .i64 (wrap64 (rd l0 0)), .int .i64 (wrap64 (Go.bits .and .u8 (rd l0 1) 15)), .int .i64 (wrap64 ((rd l0 1) / 16)), .int .i64 t159, .int .i64 t161] 40 (0, 0)) (by (with_reducible repeat (first | apply bN_ | apply bD_ | apply bA_)); refine blk_put (cs := #[.int .i64 (wrap64 (rd l0 0)), .int .i64 (wrap64 (Go.bits .and .u8 (rd l0 1) 15)), .int .i64 (wrap64 ((rd l0 1) / 16)), .int .i64 t159, .int .i64 0]) ?_ 4 _ rfl; (with_reducible repeat (first | apply bN_ | apply bD_ | apply bA_)); refine blk_put (cs := #[.int .i64 (wrap64 (rd l0 0)), .int .i64 (wrap64 (Go.bits .and .u8 (rd l0 1) 15)), .int .i64 (wrap64 ((rd l0 1) / 16)), .int .i64 0, .int .i64 0]) ?_ 3 _ rfl; (with_reducible repeat (first | apply bN_ | apply bD_ | apply bA_)); refine blk_put (cs := #[.int .i64 (wrap64 (rd l0 0)), .int .i64 (wrap64 (Go.bits .and .u8 (rd l0 1) 15)), .int .i64 0, .int .i64 0, .int .i64 0]) ?_ 2 _ rfl; (with_reducible repeat (first | apply bN_ | apply bD_ | apply bA_)); refine blk_put (cs := #[.int .i64 (wrap64 (rd l0 0)), .int .i64 0, .int .i64 0, .int .i64 0, .int .i64 0]) ?_ 1 _ rfl; (with_reducible repeat (first | apply bN_ | apply bD_ | apply bA_)); refine blk_put (cs := #[.int .i64 0, .int .i64 0, .int .i64 0, .int .i64 0, .int .i64 0]) ?_ 0 _ rfl; exact bk_) hb); have n2_ := bl_ hb; clear BK154; clear BK162; clear HB; have BK154 := n0_; have BK162 := n1_; have HB := n2_; clear n0_ n1_ n2_; (try clear hb); obtain ⟨i079, hi079, _, hsz79, _⟩ := info_parts info5; obtain ⟨A79, hcut79, hA79, hC79⟩ := print_mid_of (P := Try.prog) (Value.int .u8) 0 25 5 .i64 .i64 Try.underlying25 hi079 hsz79 (some ad155) c0 l0 8 12 (by omega) (by first | omega | exact of_decide_eq_true as_) (of_decide_eq_true as_) HC0.out; have HR164 := Aside0.mk (Kd.C_of_reads (h1 := fun _ => rfl) (hA79 _ (Kd.reads_of_C HR0.out))); have HC164 := Aside0.mk hC79; clear hA79 hC79 hi079 hsz79) | ((with_reducible refine gate_callee (f := 45) rfl ?_); refine goesL_ (some 46) rfl rfl Try.func45 (by kernel_rfl) rfl #[.slice A79 ((l0.take 12).drop 8).length (c0 - 8)] rfl (by (try simp only [List.map_toArray, List.map_cons, List.map_nil]); first | done | (rw [show ((l0.take 12).drop 8).length = (12 - 8) from (by rw [List.length_drop, List.length_take]; have h_ : (12 : Int) ≤ (l0.length : Int) := of_decide_eq_true as_; omega)] <;> rfl) | rfl | (simp only [List.length_drop, List.length_take]; rfl)) ?_; (with_reducible refine (insn_number.calls k _ _ ((l0.take 12).drop 8) t165 _ ?side1 ?side2 A33.out).mono ?_); (case side1 => exact ca_ (Kd.C_below HR164.out HB.out)); (case side2 => exact HC164.out); rintro e w' ⟨rfl, ⟨nd, rfl⟩⟩; refine ⟨_, rfl, ?_⟩; (try (rw [drewN_self w78]; generalize hq_ : World.drewN w78 _ = w78; have n0_ : Aside0 (w78.heap[gb154]? = some (.cells #[.int .i64 0, .int .i64 0, .int .i64 0, .int .i64 0, .int .i64 0] 40 (0, 0))) := ⟨by rw [← hq_]; exact bk_⟩; have n1_ : Aside0 (w78.heap[gb162]? = some (.cells #[.int .i64 (wrap64 (rd l0 0)), .int .i64 (wrap64 (Go.bits .and .u8 (rd l0 1) 15)), .int .i64 (wrap64 ((rd l0 1) / 16)), .int .i64 t159, .int .i64 t161] 40 (0, 0))) := ⟨by rw [← hq_]; exact bk_⟩; have n2_ : Aside0 (Below w.heap.size w w78) := ⟨by rw [← hq_]; exact bz_⟩; clear BK154 BK162 HB hq_; have BK154 := n0_; have BK162 := n1_; have HB := n2_; clear n0_ n1_ n2_)); obtain ⟨ycgb162_0, ycgb162_1, ycgb162_2, ycgb162_3, ycgb162_4, yfgb162_0, yfgb162_1, yfgb162_2, yfgb162_3, yfgb162_4⟩ := k5_ BK162; obtain ⟨zc80_0, zc80_1, zc80_2, zc80_3, zc80_4, zf80_0, zf80_1, zf80_2, zf80_3, zf80_4⟩ := k5_ BK154))
  refine bodyPost_ret (results_ctt rfl _ _ gb154 40 #[.int .i64 0, .int .i64 0, .int .i64 0, .int .i64 0, .int .i64 0] (0, 0) _ rfl (by (with_reducible repeat (first | apply bN_ | apply bD_ | apply bA_)); refine blk_put (cs := #[.int .i64 0, .int .i64 0, .int .i64 0, .int .i64 0, .int .i64 0]) ?_ 4 _ rfl; (with_reducible repeat (first | apply bN_ | apply bD_ | apply bA_)); refine blk_put (cs := #[.int .i64 0, .int .i64 0, .int .i64 0, .int .i64 0, .int .i64 0]) ?_ 3 _ rfl; (with_reducible repeat (first | apply bN_ | apply bD_ | apply bA_)); refine blk_put (cs := #[.int .i64 0, .int .i64 0, .int .i64 0, .int .i64 0, .int .i64 0]) ?_ 2 _ rfl; (with_reducible repeat (first | apply bN_ | apply bD_ | apply bA_)); refine blk_put (cs := #[.int .i64 0, .int .i64 0, .int .i64 0, .int .i64 0, .int .i64 0]) ?_ 1 _ rfl; (with_reducible repeat (first | apply bN_ | apply bD_ | apply bA_)); refine blk_put (cs := #[.int .i64 0, .int .i64 0, .int .i64 0, .int .i64 0, .int .i64 0]) ?_ 0 _ rfl; exact bk_) Try.underlying40 rfl (by kernel_rfl)) rfl ?_
  exact ⟨vv_, bz_⟩
 rw [if_pos c34] at H
 have c34b0 : (t165 == 0) = true := beq_iff_eq.mpr c34
 have c34b1 : (t165 != 0) = false := bne_eq_false_iff_eq.mpr c34
 clear c34
 by_cases c35 : 12 ≤ 16
 rotate_left
 ·rw [if_neg c35] at H
  exact absurd H (by simp)
 rw [if_pos c35] at H
 have c35b0 := eq_true c35
 have c35b1 : decide (12 ≤ 16) = true := decide_eq_true c35
 clear c35
 by_cases c36 : 16 ≤ (l0.length : Int)
 rotate_left
 ·rw [if_neg c36] at H
  exact absurd H (by simp)
 rw [if_pos c36] at H
 have c36b0 := eq_true c36
 have c36b1 : decide (16 ≤ (l0.length : Int)) = true := decide_eq_true c36
 clear c36
 replace H := Option.bind_eq_some_iff.mp H
 obtain ⟨t167, A370, H⟩ := H
 (try dsimp only at H)
 have A37 := Aside0.mk A370
 clear A370
 replace H := Option.bind_eq_some_iff.mp H
 obtain ⟨t168, A380, H⟩ := H
 (try dsimp only at H)
 have A38 := Aside0.mk A380
 clear A380
 simp only [Option.some.injEq, Prod.mk.injEq] at H
 obtain ⟨rfl, rfl, rfl, rfl, rfl, rfl, rfl⟩ := H
 go_enter Try.func37, Try.ntmps37
 try go_wp2_with (first | ((with_reducible refine gate_dst (N := 2) rfl ?_); refine bx_ 2 #[.int .i64 0, .int .i64 0, .int .i64 0, .int .i64 0, .int .i64 0] 40 ?_; intro gb154 hg w39 BK154 hb; have GW154 := bg_ hg; have GE154 := GW154; replace HB := bl_ hb; clear hb hg))
 replace BK154 := Aside0.mk (blk_drew BK154.out)
 replace HB := Aside0.mk (below_drew1 HB.out)
 have p155 : 0 ≤ (0 : Int) := (by omega)
 have q155 : 0 < (l0.length : Int) := of_decide_eq_true as_
 obtain ⟨ad155, e155, hx155_0⟩ := Kd.at_int HR0.out 0 p155 q155
 have hw155_0 := hx155_0
 (try rw [show ((0 : Int)).toNat = 0 from rfl] at hw155_0)
 (try rw [show 0 * 1 = 0 from rfl] at hw155_0)
 (try rw [Addr.add_zero'] at hw155_0)
 cases e155
 have qi155 : (0 < l0.length) = True := eq_true (by omega)
 (try rw [show ((0 : Int)).toNat = 0 from rfl] at hx155_0)
 (try rw [Addr.add_zero'] at hx155_0)
 replace hx155_0 := (hc_ HB hx155_0 :)
 replace p155 := eq_true p155
 replace q155 := eq_true q155
 have p156 : 0 ≤ (1 : Int) := (by omega)
 have q156 : 1 < (l0.length : Int) := of_decide_eq_true as_
 obtain ⟨ad156, e156, hx156_0⟩ := Kd.at_int HR0.out 1 p156 q156
 have hw156_0 := hx156_0
 (try rw [show ((1 : Int)).toNat = 1 from rfl] at hw156_0)
 (try rw [show 1 * 1 = 1 from rfl] at hw156_0)
 (try simp only [Nat.reduceMul, Nat.reduceEqDiff, Go.Addr.add, ↓reduceIte] at hw156_0)
 obtain rfl : ad155 = ad156 := (by injection e156)
 (try simp only [show (1 : Int).toNat = 1 from rfl, Nat.reduceMul, Nat.reduceEqDiff, Go.Addr.add, ↓reduceIte] at hx156_0)
 have qi156 : (1 < l0.length) = True := eq_true (by omega)
 (try rw [show ((1 : Int)).toNat = 1 from rfl] at hx156_0)
 replace hx156_0 := (hc_ HB hx156_0 :)
 replace p156 := eq_true p156
 replace q156 := eq_true q156
 have p157 : 0 ≤ (1 : Int) := (by omega)
 have q157 : 1 < (l0.length : Int) := of_decide_eq_true as_
 obtain ⟨ad157, e157, hx157_0⟩ := Kd.at_int HR0.out 1 p157 q157
 have hw157_0 := hx157_0
 (try rw [show ((1 : Int)).toNat = 1 from rfl] at hw157_0)
 (try rw [show 1 * 1 = 1 from rfl] at hw157_0)
 (try simp only [Nat.reduceMul, Nat.reduceEqDiff, Go.Addr.add, ↓reduceIte] at hw157_0)
 obtain rfl : ad155 = ad157 := (by injection e157)
 (try simp only [show (1 : Int).toNat = 1 from rfl, Nat.reduceMul, Nat.reduceEqDiff, Go.Addr.add, ↓reduceIte] at hx157_0)
 have qi157 : (1 < l0.length) = True := eq_true (by omega)
 (try rw [show ((1 : Int)).toNat = 1 from rfl] at hx157_0)
 replace hx157_0 := (hc_ HB hx157_0 :)
 replace p157 := eq_true p157
 replace q157 := eq_true q157
 obtain ⟨i041, hi041, _, hsz41, _⟩ := info_parts info5
 obtain ⟨A41, hcut41, hA41, hC41⟩ := print_mid_of (P := Try.prog) (Value.int .u8) 0 25 5 .i64 .i64 Try.underlying25 hi041 hsz41 (some ad155) c0 l0 2 4 (by omega) (by first | omega | exact of_decide_eq_true as_) (of_decide_eq_true as_) HC0.out
 have HR158 := Aside0.mk (Kd.C_of_reads (h1 := fun _ => rfl) (hA41 _ (Kd.reads_of_C HR0.out)))
 have HC158 := Aside0.mk hC41
 clear hA41 hC41 hi041 hsz41
 obtain ⟨i042, hi042, _, hsz42, _⟩ := info_parts info5
 obtain ⟨A42, hcut42, hA42, hC42⟩ := print_mid_of (P := Try.prog) (Value.int .u8) 0 25 5 .i64 .i64 Try.underlying25 hi042 hsz42 (some ad155) c0 l0 4 8 (by omega) (by first | omega | exact of_decide_eq_true as_) (of_decide_eq_true as_) HC0.out
 have HR160 := Aside0.mk (Kd.C_of_reads (h1 := fun _ => rfl) (hA42 _ (Kd.reads_of_C HR0.out)))
 have HC160 := Aside0.mk hC42
 clear hA42 hC42 hi042 hsz42
 refine start_ (n := 23) (S := fun w' => w'.cell? ad155 = some (.int .u8 (rd l0 0)) ∧ w'.cell? ⟨ad155.block, ad155.off + 1, none⟩ = some (.int .u8 (rd l0 1)) ∧ w'.cell? ⟨ad155.block, ad155.off + 1, none⟩ = some (.int .u8 (rd l0 1))) (ds := []) #[Z,Z,Z,Z,Z,Z,Z,Z,Z,Z,Z,Z,Z,Z,Z,Z,Z,Z,Z,Z,Z,Z,Z] (by kernel_rfl) rfl rfl ⟨(hc_ HB hw155_0 :), (hc_ HB hw156_0 :), (hc_ HB hw157_0 :)⟩ (fun hHeld => ?_); refine with_tabW insn_first.tab3 insn_first.bits3 (fun HT_ HW_ => ?_)
 generalize w39.drew = w40 at BK154 HB HR158 HR160 hx155_0 hx156_0 hx157_0 hHeld ⊢
 refine pq_ 0 11 #[Y,Z,Z,Z,Z,Z,Z,Z,Z,Z,Z,Z,Z,Z,Z,Z,Z,Z,Z,Z,Z,Z,Z] ?_
 refine pq_ 1 12 #[Y,Y,Z,Z,Z,Z,Z,Z,Z,Z,Z,Z,Z,Z,Z,Z,Z,Z,Z,Z,Z,Z,Z] ?_
 refine pq_ 4 15 #[Y,Y,Z,Z,Y,Z,Z,Z,Z,Z,Z,Z,Z,Z,Z,Z,Z,Z,Z,Z,Z,Z,Z] ?_
 refine pq_ 5 16 #[Y,Y,Z,Z,Y,Y,Z,Z,Z,Z,Z,Z,Z,Z,Z,Z,Z,Z,Z,Z,Z,Z,Z] ?_
 refine pq_ 9 20 #[Y,Y,Z,Z,Y,Y,Z,Z,Z,Y,Z,Z,Z,Z,Z,Z,Z,Z,Z,Z,Z,Z,Z] ?_
 refine pq_ 10 21 #[Y,Y,Z,Z,Y,Y,Z,Z,Z,Y,Y,Z,Z,Z,Z,Z,Z,Z,Z,Z,Z,Z,Z] ?_
 refine pq_ 14 25 #[Y,Y,Z,Z,Y,Y,Z,Z,Z,Y,Y,Z,Z,Z,Y,Z,Z,Z,Z,Z,Z,Z,Z] ?_
 refine pq_ 15 26 #[Y,Y,Z,Z,Y,Y,Z,Z,Z,Y,Y,Z,Z,Z,Y,Y,Z,Z,Z,Z,Z,Z,Z] ?_
 refine pq_ 17 28 #[Y,Y,Z,Z,Y,Y,Z,Z,Z,Y,Y,Z,Z,Z,Y,Y,Z,Y,Z,Z,Z,Z,Z] ?_
 refine pq_ 18 29 #[Y,Y,Z,Z,Y,Y,Z,Z,Z,Y,Y,Z,Z,Z,Y,Y,Z,Y,Y,Z,Z,Z,Z] ?_
 refine tq1_ 2 13 #[Y,Y,Y,Z,Y,Y,Z,Z,Z,Y,Y,Z,Z,Z,Y,Y,Z,Y,Y,Z,Z,Z,Z] hHeld ?_
 refine pq_ 3 14 #[Y,Y,Y,Y,Y,Y,Z,Z,Z,Y,Y,Z,Z,Z,Y,Y,Z,Y,Y,Z,Z,Z,Z] ?_
 refine tq1_ 6 17 #[Y,Y,Y,Y,Y,Y,Y,Z,Z,Y,Y,Z,Z,Z,Y,Y,Z,Y,Y,Z,Z,Z,Z] hHeld ?_
 refine pq_ 7 18 #[Y,Y,Y,Y,Y,Y,Y,Y,Z,Y,Y,Z,Z,Z,Y,Y,Z,Y,Y,Z,Z,Z,Z] ?_
 refine pq_ 8 19 #[Y,Y,Y,Y,Y,Y,Y,Y,Y,Y,Y,Z,Z,Z,Y,Y,Z,Y,Y,Z,Z,Z,Z] ?_
 refine tq1_ 11 22 #[Y,Y,Y,Y,Y,Y,Y,Y,Y,Y,Y,Y,Z,Z,Y,Y,Z,Y,Y,Z,Z,Z,Z] hHeld ?_
 refine pq_ 12 23 #[Y,Y,Y,Y,Y,Y,Y,Y,Y,Y,Y,Y,Y,Z,Y,Y,Z,Y,Y,Z,Z,Z,Z] ?_
 refine pq_ 13 24 #[Y,Y,Y,Y,Y,Y,Y,Y,Y,Y,Y,Y,Y,Y,Y,Y,Z,Y,Y,Z,Z,Z,Z] ?_
 refine join_ (σ := Nat) 1 #[Y,Y,Y,Y,Y,Y,Y,Y,Y,Y,Y,Y,Y,Y,Y,Y,Y,Y,Y,Y,Y,Y,Z] (fun s_ => [(27, .int .i64 t159), (30, .int .i64 t161), (5, .pointer (some ⟨s_, 0, none⟩)), (31, .agg #[.int .i64 (wrap64 (rd l0 0)), .int .i64 (wrap64 (Go.bits .and .u8 (rd l0 1) 15)), .int .i64 (wrap64 ((rd l0 1) / 16)), .int .i64 t159, .int .i64 t161])]) (fun s_ w' => (w'.cell? ad155 = some (.int .u8 (rd l0 0)) ∧ w'.cell? ⟨ad155.block, ad155.off + 1, none⟩ = some (.int .u8 (rd l0 1)) ∧ w'.cell? ⟨ad155.block, ad155.off + 1, none⟩ = some (.int .u8 (rd l0 1))) ∧ (w'.heap[gb154]? = some (.cells #[.int .i64 0, .int .i64 0, .int .i64 0, .int .i64 0, .int .i64 0] 40 (0, 0))) ∧ (w'.heap[s_]? = some (.cells #[.int .i64 0, .int .i64 0, .int .i64 0, .int .i64 0, .int .i64 0] 40 (0, 0))) ∧ (w.heap.size ≤ s_) ∧ (w.heap.size ≤ s_) ∧ (gb154 ≠ s_) ∧ (s_ ≠ gb154) ∧ (Below w.heap.size w w')) ?_ ?_
 rotate_left
 ·intro hCont
  refine two_ (i := 16) (j := 21) (Ni := some 27) (Nj := some 5) #[Y,Y,Y,Y,Y,Y,Y,Y,Y,Y,Y,Y,Y,Y,Y,Y,Y,Y,Y,Z,Z,Z,Z] #[Y,Y,Y,Y,Y,Y,Y,Y,Y,Y,Y,Y,Y,Y,Y,Y,Z,Y,Y,Z,Z,Y,Z] rfl rfl rfl rfl (two_of HT_.out (by kernel_rfl)) (by decide) (by decide) (fun K hK => ?_) (fun K hK => ?_)
  rotate_left
  ·skip
   refine box_step ?hg (N := 5) ?hd (cs := #[.int .i64 0, .int .i64 0, .int .i64 0, .int .i64 0, .int .i64 0]) (t := 40) ?hr ?_; (case hd => rfl); (case hg => rfl); (case hr => first | (go_simp; done) | (go_simp; rfl))
   intro gb162 hg w43 hbox hb
   have BK162 := Aside0.mk (hbox)
   have GW162 := bg_ hg
   have GE162 := GW162
   have NB154_162 := bm_ hg BK154
   have NB162_154 := bn_ hg BK154
   replace BK154 := bb_ hb BK154
   replace HB := bl_ hb
   clear hb hbox hg
   refine hK.out _ _ ⟨(hc_ HB hw155_0 :), (hc_ HB hw156_0 :), (hc_ HB hw157_0 :)⟩ (fun hHeld => ?_)
   clear hK K
   refine norm_ (a' := ?_) ?_ ?_
   rotate_left
   ·show Act.put _ (some 5) _ = _
    simp only [Act.put, s1_, s2_, s3_, i64_w, i32_w]
    rfl
   refine one_ (i := 16) (N := some 27) #[Y,Y,Y,Y,Y,Y,Y,Y,Y,Y,Y,Y,Y,Y,Y,Y,Y,Y,Y,Z,Z,Y,Z] rfl rfl (one_of HT_.out (by kernel_rfl)) (by decide) (fun K hK => ?_)
   refine goes_ Try.func45 (by kernel_rfl) rfl #[.slice A41 ((l0.take 4).drop 2).length (c0 - 2)] (by rfl) rfl rfl (by (try simp only [List.map_toArray, List.map_cons, List.map_nil]); first | done | (rw [show ((l0.take 4).drop 2).length = (4 - 2) from (by rw [List.length_drop, List.length_take]; have h_ : (4 : Int) ≤ (l0.length : Int) := of_decide_eq_true as_; omega)] <;> rfl) | rfl | (simp only [List.length_drop, List.length_take]; rfl)) ?_
   with_reducible refine (insn_number.calls k _ _ ((l0.take 4).drop 2) t159 _ ?side1 ?side2 A9.out).mono ?_
   (case side1 => exact ca_ (Kd.C_below HR158.out HB.out))
   (case side2 => exact HC158.out)
   rintro e w' ⟨rfl, ⟨nd, rfl⟩⟩
   refine ⟨_, rfl, ?_⟩
   refine hK.out _ _ ⟨(hc_ HB hw155_0 :), (hc_ HB hw156_0 :), (hc_ HB hw157_0 :)⟩ (fun hHeld => ?_)
   clear hK K
   refine norm_ (a' := ?_) ?_ ?_
   rotate_left
   ·show Act.put _ (some 27) _ = _
    simp only [Act.put, s1_, s2_, s3_, i64_w, i32_w]
    rfl
   refine one_ (i := 19) (N := some 30) #[Y,Y,Y,Y,Y,Y,Y,Y,Y,Y,Y,Y,Y,Y,Y,Y,Y,Y,Y,Y,Z,Y,Z] rfl rfl (one_of HT_.out (by kernel_rfl)) (by decide) (fun K hK => ?_)
   refine goes_ Try.func45 (by kernel_rfl) rfl #[.slice A42 ((l0.take 8).drop 4).length (c0 - 4)] (by rfl) rfl rfl (by (try simp only [List.map_toArray, List.map_cons, List.map_nil]); first | done | (rw [show ((l0.take 8).drop 4).length = (8 - 4) from (by rw [List.length_drop, List.length_take]; have h_ : (8 : Int) ≤ (l0.length : Int) := of_decide_eq_true as_; omega)] <;> rfl) | rfl | (simp only [List.length_drop, List.length_take]; rfl)) ?_
   with_reducible refine (insn_number.calls k _ _ ((l0.take 8).drop 4) t161 _ ?side1 ?side2 A12.out).mono ?_
   (case side1 => exact ca_ (Kd.C_below HR160.out bz_))
   (case side2 => exact HC160.out)
   rintro e w' ⟨rfl, ⟨nd, rfl⟩⟩
   refine ⟨_, rfl, ?_⟩
   refine hK.out _ _ ⟨(hc_ HB hw155_0 :), (hc_ HB hw156_0 :), (hc_ HB hw157_0 :)⟩ (fun hHeld => ?_)
   clear hK K
   refine norm_ (a' := ?_) ?_ ?_
   rotate_left
   ·show Act.put _ (some 30) _ = _
    simp only [Act.put, s1_, s2_, s3_, i64_w, i32_w]
    rfl
   refine pq_ 20 31 #[Y,Y,Y,Y,Y,Y,Y,Y,Y,Y,Y,Y,Y,Y,Y,Y,Y,Y,Y,Y,Y,Y,Z] ?_
   exact norm_ (by simp only [putAll, Act.put, List.setIfInBounds_toArray, List.set_cons_zero, List.set_cons_succ]) (hCont (gb162) _ ⟨hHeld, bk_, bk_, GW162.out, GE162.out, NB154_162.out, NB162_154.out, bz_⟩)
  refine goes_ Try.func45 (by kernel_rfl) rfl #[.slice A41 ((l0.take 4).drop 2).length (c0 - 2)] (by rfl) rfl rfl (by (try simp only [List.map_toArray, List.map_cons, List.map_nil]); first | done | (rw [show ((l0.take 4).drop 2).length = (4 - 2) from (by rw [List.length_drop, List.length_take]; have h_ : (4 : Int) ≤ (l0.length : Int) := of_decide_eq_true as_; omega)] <;> rfl) | rfl | (simp only [List.length_drop, List.length_take]; rfl)) ?_
  with_reducible refine (insn_number.calls k _ _ ((l0.take 4).drop 2) t159 _ ?side1 ?side2 A9.out).mono ?_
  (case side1 => exact ca_ (Kd.C_below HR158.out HB.out))
  (case side2 => exact HC158.out)
  rintro e w' ⟨rfl, ⟨nd, rfl⟩⟩
  refine ⟨_, rfl, ?_⟩
  refine hK.out _ _ ⟨(hc_ HB hw155_0 :), (hc_ HB hw156_0 :), (hc_ HB hw157_0 :)⟩ (fun hHeld => ?_)
  clear hK K
  refine norm_ (a' := ?_) ?_ ?_
  rotate_left
  ·show Act.put _ (some 27) _ = _
   simp only [Act.put, s1_, s2_, s3_, i64_w, i32_w]
   rfl
  refine two_ (i := 19) (j := 21) (Ni := some 30) (Nj := some 5) #[Y,Y,Y,Y,Y,Y,Y,Y,Y,Y,Y,Y,Y,Y,Y,Y,Y,Y,Y,Y,Z,Z,Z] #[Y,Y,Y,Y,Y,Y,Y,Y,Y,Y,Y,Y,Y,Y,Y,Y,Y,Y,Y,Z,Z,Y,Z] rfl rfl rfl rfl (two_of HT_.out (by kernel_rfl)) (by decide) (by decide) (fun K hK => ?_) (fun K hK => ?_)
  ·skip
   refine goes_ Try.func45 (by kernel_rfl) rfl #[.slice A42 ((l0.take 8).drop 4).length (c0 - 4)] (by rfl) rfl rfl (by (try simp only [List.map_toArray, List.map_cons, List.map_nil]); first | done | (rw [show ((l0.take 8).drop 4).length = (8 - 4) from (by rw [List.length_drop, List.length_take]; have h_ : (8 : Int) ≤ (l0.length : Int) := of_decide_eq_true as_; omega)] <;> rfl) | rfl | (simp only [List.length_drop, List.length_take]; rfl)) ?_
   with_reducible refine (insn_number.calls k _ _ ((l0.take 8).drop 4) t161 _ ?side1 ?side2 A12.out).mono ?_
   (case side1 => exact ca_ (Kd.C_below HR160.out bz_))
   (case side2 => exact HC160.out)
   rintro e w' ⟨rfl, ⟨nd, rfl⟩⟩
   refine ⟨_, rfl, ?_⟩
   refine hK.out _ _ ⟨(hc_ HB hw155_0 :), (hc_ HB hw156_0 :), (hc_ HB hw157_0 :)⟩ (fun hHeld => ?_)
   clear hK K
   refine norm_ (a' := ?_) ?_ ?_
   rotate_left
   ·show Act.put _ (some 30) _ = _
    simp only [Act.put, s1_, s2_, s3_, i64_w, i32_w]
    rfl
   refine pq_ 20 31 #[Y,Y,Y,Y,Y,Y,Y,Y,Y,Y,Y,Y,Y,Y,Y,Y,Y,Y,Y,Y,Y,Z,Z] ?_
   refine one_ (i := 21) (N := some 5) #[Y,Y,Y,Y,Y,Y,Y,Y,Y,Y,Y,Y,Y,Y,Y,Y,Y,Y,Y,Y,Y,Y,Z] rfl rfl (one_of HT_.out (by kernel_rfl)) (by decide) (fun K hK => ?_)
   refine box_step ?hg (N := 5) ?hd (cs := #[.int .i64 0, .int .i64 0, .int .i64 0, .int .i64 0, .int .i64 0]) (t := 40) ?hr ?_; (case hd => rfl); (case hg => rfl); (case hr => first | (go_simp; done) | (go_simp; rfl))
   intro gb162 hg w43 hbox hb
   have BK162 := Aside0.mk (hbox)
   have GW162 := bg_ hg
   have GE162 := GW162
   have NB154_162 := bm_ hg BK154
   have NB162_154 := bn_ hg BK154
   replace BK154 := bb_ hb BK154
   replace HB := bl_ hb
   clear hb hbox hg
   refine hK.out _ _ ⟨(hc_ HB hw155_0 :), (hc_ HB hw156_0 :), (hc_ HB hw157_0 :)⟩ (fun hHeld => ?_)
   clear hK K
   refine norm_ (a' := ?_) ?_ ?_
   rotate_left
   ·show Act.put _ (some 5) _ = _
    simp only [Act.put, s1_, s2_, s3_, i64_w, i32_w]
    rfl
   exact norm_ (by simp only [putAll, Act.put, List.setIfInBounds_toArray, List.set_cons_zero, List.set_cons_succ]) (hCont (gb162) _ ⟨hHeld, bk_, bk_, GW162.out, GE162.out, NB154_162.out, NB162_154.out, bz_⟩)
  refine box_step ?hg (N := 5) ?hd (cs := #[.int .i64 0, .int .i64 0, .int .i64 0, .int .i64 0, .int .i64 0]) (t := 40) ?hr ?_; (case hd => rfl); (case hg => rfl); (case hr => first | (go_simp; done) | (go_simp; rfl))
  intro gb162 hg w43 hbox hb
  have BK162 := Aside0.mk (hbox)
  have GW162 := bg_ hg
  have GE162 := GW162
  have NB154_162 := bm_ hg BK154
  have NB162_154 := bn_ hg BK154
  replace BK154 := bb_ hb BK154
  replace HB := bl_ hb
  clear hb hbox hg
  refine hK.out _ _ ⟨(hc_ HB hw155_0 :), (hc_ HB hw156_0 :), (hc_ HB hw157_0 :)⟩ (fun hHeld => ?_)
  clear hK K
  refine norm_ (a' := ?_) ?_ ?_
  rotate_left
  ·show Act.put _ (some 5) _ = _
   simp only [Act.put, s1_, s2_, s3_, i64_w, i32_w]
   rfl
  refine one_ (i := 19) (N := some 30) #[Y,Y,Y,Y,Y,Y,Y,Y,Y,Y,Y,Y,Y,Y,Y,Y,Y,Y,Y,Y,Z,Y,Z] rfl rfl (one_of HT_.out (by kernel_rfl)) (by decide) (fun K hK => ?_)
  refine goes_ Try.func45 (by kernel_rfl) rfl #[.slice A42 ((l0.take 8).drop 4).length (c0 - 4)] (by rfl) rfl rfl (by (try simp only [List.map_toArray, List.map_cons, List.map_nil]); first | done | (rw [show ((l0.take 8).drop 4).length = (8 - 4) from (by rw [List.length_drop, List.length_take]; have h_ : (8 : Int) ≤ (l0.length : Int) := of_decide_eq_true as_; omega)] <;> rfl) | rfl | (simp only [List.length_drop, List.length_take]; rfl)) ?_
  with_reducible refine (insn_number.calls k _ _ ((l0.take 8).drop 4) t161 _ ?side1 ?side2 A12.out).mono ?_
  (case side1 => exact ca_ (Kd.C_below HR160.out HB.out))
  (case side2 => exact HC160.out)
  rintro e w' ⟨rfl, ⟨nd, rfl⟩⟩
  refine ⟨_, rfl, ?_⟩
  refine hK.out _ _ ⟨(hc_ HB hw155_0 :), (hc_ HB hw156_0 :), (hc_ HB hw157_0 :)⟩ (fun hHeld => ?_)
  clear hK K
  refine norm_ (a' := ?_) ?_ ?_
  rotate_left
  ·show Act.put _ (some 30) _ = _
   simp only [Act.put, s1_, s2_, s3_, i64_w, i32_w]
   rfl
  refine pq_ 20 31 #[Y,Y,Y,Y,Y,Y,Y,Y,Y,Y,Y,Y,Y,Y,Y,Y,Y,Y,Y,Y,Y,Y,Z] ?_
  exact norm_ (by simp only [putAll, Act.put, List.setIfInBounds_toArray, List.set_cons_zero, List.set_cons_succ]) (hCont (gb162) _ ⟨hHeld, bk_, bk_, GW162.out, GE162.out, NB154_162.out, NB162_154.out, bz_⟩)
 rintro gb162 w44 ⟨hS_, h0_, h1_, h2_, h3_, h4_, h5_, h6_⟩
 have n0_ : Aside0 (w44.heap[gb154]? = some (.cells #[.int .i64 0, .int .i64 0, .int .i64 0, .int .i64 0, .int .i64 0] 40 (0, 0))) := ⟨h0_⟩
 have n1_ : Aside0 (w44.heap[gb162]? = some (.cells #[.int .i64 0, .int .i64 0, .int .i64 0, .int .i64 0, .int .i64 0] 40 (0, 0))) := ⟨h1_⟩
 have n2_ : Aside0 (w.heap.size ≤ gb162) := ⟨h2_⟩
 have n3_ : Aside0 (w.heap.size ≤ gb162) := ⟨h3_⟩
 have n4_ : Aside0 (gb154 ≠ gb162) := ⟨h4_⟩
 have n5_ : Aside0 (gb162 ≠ gb154) := ⟨h5_⟩
 have n6_ : Aside0 (Below w.heap.size w w44) := ⟨h6_⟩
 clear BK154
 clear HB
 clear h0_ h1_ h2_ h3_ h4_ h5_ h6_
 have BK154 := n0_
 have BK162 := n1_
 have GW162 := n2_
 have GE162 := n3_
 have NB154_162 := n4_
 have NB162_154 := n5_
 have HB := n6_
 clear n0_ n1_ n2_ n3_ n4_ n5_ n6_
 have hHeld : w44.cell? ad155 = some (.int .u8 (rd l0 0)) ∧ w44.cell? ⟨ad155.block, ad155.off + 1, none⟩ = some (.int .u8 (rd l0 1)) ∧ w44.cell? ⟨ad155.block, ad155.off + 1, none⟩ = some (.int .u8 (rd l0 1)) := hS_
 refine norm_ (a' := ?_) ?_ ?_
 rotate_left
 ·simp only [putAll, Act.put, List.setIfInBounds_toArray, List.set_cons_zero, List.set_cons_succ]
  rfl
 refine one_ (i := 22) (N := none) #[Y,Y,Y,Y,Y,Y,Y,Y,Y,Y,Y,Y,Y,Y,Y,Y,Y,Y,Y,Y,Y,Y,Y] rfl rfl (one_of HT_.out (by kernel_rfl)) (by decide) (fun K hK => ?_)
 obtain ⟨hs45, hfs45⟩ := k1_ BK162
 have hns45_0 := NB154_162.out
 have hms45_0 := NB162_154.out
 have hs46 := c1_ BK162
 have hfs46 := fz_ BK162 1
 have hns46_0 := NB154_162.out
 have hms46_0 := NB162_154.out
 have hs47 := c2_ BK162
 have hfs47 := fz_ BK162 2
 have hns47_0 := NB154_162.out
 have hms47_0 := NB162_154.out
 have hs48 := c3_ BK162
 have hfs48 := fz_ BK162 3
 have hns48_0 := NB154_162.out
 have hms48_0 := NB162_154.out
 have hs49 := c4_ BK162
 have hfs49 := fz_ BK162 4
 have hns49_0 := NB154_162.out
 have hms49_0 := NB162_154.out
 refine skip_ (w1 := ?_) (by rfl) rfl ?_ ?_
 rotate_left
 ·go_simp
  rfl
 refine hK.out _ _ ⟨((cell_far (p := ⟨gb162, _, none⟩) (nf_ hw155_0 GW162) _).trans (((cell_far (p := ⟨gb162, _, none⟩) (nf_ hw155_0 GW162) _).trans (((cell_far (p := ⟨gb162, _, none⟩) (nf_ hw155_0 GW162) _).trans (((cell_far (p := ⟨gb162, _, none⟩) (nf_ hw155_0 GW162) _).trans (((cell_far (p := ⟨gb162, _, none⟩) (nf_ hw155_0 GW162) _).trans (hHeld.1)))))))))), ((cell_far (p := ⟨gb162, _, none⟩) (nf_ hw156_0 GW162) _).trans (((cell_far (p := ⟨gb162, _, none⟩) (nf_ hw156_0 GW162) _).trans (((cell_far (p := ⟨gb162, _, none⟩) (nf_ hw156_0 GW162) _).trans (((cell_far (p := ⟨gb162, _, none⟩) (nf_ hw156_0 GW162) _).trans (((cell_far (p := ⟨gb162, _, none⟩) (nf_ hw156_0 GW162) _).trans (hHeld.2.1)))))))))), ((cell_far (p := ⟨gb162, _, none⟩) (nf_ hw157_0 GW162) _).trans (((cell_far (p := ⟨gb162, _, none⟩) (nf_ hw157_0 GW162) _).trans (((cell_far (p := ⟨gb162, _, none⟩) (nf_ hw157_0 GW162) _).trans (((cell_far (p := ⟨gb162, _, none⟩) (nf_ hw157_0 GW162) _).trans (((cell_far (p := ⟨gb162, _, none⟩) (nf_ hw157_0 GW162) _).trans (hHeld.2.2))))))))))⟩ (fun hHeld => ?_)
 clear hK K
 refine done_ (done_of HT_.out (by kernel_rfl)) ?_
 have hnb50 := NB162_154.out
 have hnc50 := NB154_162.out
 obtain ⟨zc51_0, zc51_1, zc51_2, zc51_3, zc51_4, zf51_0, zf51_1, zf51_2, zf51_3, zf51_4⟩ := k5_ BK162
 try go_wp2_with (first | ((with_reducible refine gate_callee (f := 24) rfl ?_); refine goesL_ (some 33) rfl rfl Try.func24 (by kernel_rfl) rfl #[.agg #[.int .i64 (wrap64 (rd l0 0)), .int .i64 (wrap64 (Go.bits .and .u8 (rd l0 1) 15)), .int .i64 (wrap64 ((rd l0 1) / 16)), .int .i64 t159, .int .i64 t161]] rfl (by (try simp only [List.map_toArray, List.map_cons, List.map_nil]); first | done | rfl | (simp only [List.length_drop, List.length_take]; rfl)) ?_; (with_reducible refine (insn_Size.calls (wrap64 (rd l0 0)) (wrap64 (Go.bits .and .u8 (rd l0 1) 15)) (wrap64 ((rd l0 1) / 16)) t159 t161 t163 _ A13.out).mono ?_); rintro e w52 ⟨rfl, hb⟩; refine ⟨_, rfl, ?_⟩; have n0_ := Aside0.mk (blk_below (g := gb154) (o := .cells #[.int .i64 0, .int .i64 0, .int .i64 0, .int .i64 0, .int .i64 0] 40 (0, 0)) (by (with_reducible repeat (first | apply bN_ | apply bD_ | apply bA_)); refine blk_far ?_ NB154_162.out _; (with_reducible repeat (first | apply bN_ | apply bD_ | apply bA_)); refine blk_far ?_ NB154_162.out _; (with_reducible repeat (first | apply bN_ | apply bD_ | apply bA_)); refine blk_far ?_ NB154_162.out _; (with_reducible repeat (first | apply bN_ | apply bD_ | apply bA_)); refine blk_far ?_ NB154_162.out _; (with_reducible repeat (first | apply bN_ | apply bD_ | apply bA_)); refine blk_far ?_ NB154_162.out _; exact bk_) hb); have n1_ := Aside0.mk (blk_below (g := gb162) (o := .cells #[.int .i64 (wrap64 (rd l0 0)), .int .i64 (wrap64 (Go.bits .and .u8 (rd l0 1) 15)), .int .i64 (wrap64 ((rd l0 1) / 16)), .int .i64 t159, .int .i64 t161] 40 (0, 0)) (by (with_reducible repeat (first | apply bN_ | apply bD_ | apply bA_)); refine blk_put (cs := #[.int .i64 (wrap64 (rd l0 0)), .int .i64 (wrap64 (Go.bits .and .u8 (rd l0 1) 15)), .int .i64 (wrap64 ((rd l0 1) / 16)), .int .i64 t159, .int .i64 0]) ?_ 4 _ rfl; (with_reducible repeat (first | apply bN_ | apply bD_ | apply bA_)); refine blk_put (cs := #[.int .i64 (wrap64 (rd l0 0)), .int .i64 (wrap64 (Go.bits .and .u8 (rd l0 1) 15)), .int .i64 (wrap64 ((rd l0 1) / 16)), .int .i64 0, .int .i64 0]) ?_ 3 _ rfl; (with_reducible repeat (first | apply bN_ | apply bD_ | apply bA_)); refine blk_put (cs := #[.int .i64 (wrap64 (rd l0 0)), .int .i64 (wrap64 (Go.bits .and .u8 (rd l0 1) 15)), .int .i64 0, .int .i64 0, .int .i64 0]) ?_ 2 _ rfl; (with_reducible repeat (first | apply bN_ | apply bD_ | apply bA_)); refine blk_put (cs := #[.int .i64 (wrap64 (rd l0 0)), .int .i64 0, .int .i64 0, .int .i64 0, .int .i64 0]) ?_ 1 _ rfl; (with_reducible repeat (first | apply bN_ | apply bD_ | apply bA_)); refine blk_put (cs := #[.int .i64 0, .int .i64 0, .int .i64 0, .int .i64 0, .int .i64 0]) ?_ 0 _ rfl; exact bk_) hb); have n2_ := bl_ hb; clear BK154; clear BK162; clear HB; have BK154 := n0_; have BK162 := n1_; have HB := n2_; clear n0_ n1_ n2_; (try clear hb); obtain ⟨i053, hi053, _, hsz53, _⟩ := info_parts info5; obtain ⟨A53, hcut53, hA53, hC53⟩ := print_mid_of (P := Try.prog) (Value.int .u8) 0 25 5 .i64 .i64 Try.underlying25 hi053 hsz53 (some ad155) c0 l0 8 12 (by omega) (by first | omega | exact of_decide_eq_true as_) (of_decide_eq_true as_) HC0.out; have HR164 := Aside0.mk (Kd.C_of_reads (h1 := fun _ => rfl) (hA53 _ (Kd.reads_of_C HR0.out))); have HC164 := Aside0.mk hC53; clear hA53 hC53 hi053 hsz53) | ((with_reducible refine gate_callee (f := 45) rfl ?_); refine goesL_ (some 46) rfl rfl Try.func45 (by kernel_rfl) rfl #[.slice A53 ((l0.take 12).drop 8).length (c0 - 8)] rfl (by (try simp only [List.map_toArray, List.map_cons, List.map_nil]); first | done | (rw [show ((l0.take 12).drop 8).length = (12 - 8) from (by rw [List.length_drop, List.length_take]; have h_ : (12 : Int) ≤ (l0.length : Int) := of_decide_eq_true as_; omega)] <;> rfl) | rfl | (simp only [List.length_drop, List.length_take]; rfl)) ?_; (with_reducible refine (insn_number.calls k _ _ ((l0.take 12).drop 8) t165 _ ?side1 ?side2 A33.out).mono ?_); (case side1 => exact ca_ (Kd.C_below HR164.out HB.out)); (case side2 => exact HC164.out); rintro e w' ⟨rfl, ⟨nd, rfl⟩⟩; refine ⟨_, rfl, ?_⟩; (try (rw [drewN_self w52]; generalize hq_ : World.drewN w52 _ = w52; have n0_ : Aside0 (w52.heap[gb154]? = some (.cells #[.int .i64 0, .int .i64 0, .int .i64 0, .int .i64 0, .int .i64 0] 40 (0, 0))) := ⟨by rw [← hq_]; exact bk_⟩; have n1_ : Aside0 (w52.heap[gb162]? = some (.cells #[.int .i64 (wrap64 (rd l0 0)), .int .i64 (wrap64 (Go.bits .and .u8 (rd l0 1) 15)), .int .i64 (wrap64 ((rd l0 1) / 16)), .int .i64 t159, .int .i64 t161] 40 (0, 0))) := ⟨by rw [← hq_]; exact bk_⟩; have n2_ : Aside0 (Below w.heap.size w w52) := ⟨by rw [← hq_]; exact bz_⟩; clear BK154 BK162 HB hq_; have BK154 := n0_; have BK162 := n1_; have HB := n2_; clear n0_ n1_ n2_)); obtain ⟨ycgb154_0, ycgb154_1, ycgb154_2, ycgb154_3, ycgb154_4, yfgb154_0, yfgb154_1, yfgb154_2, yfgb154_3, yfgb154_4⟩ := k5_ BK154; obtain ⟨ycgb162_0, ycgb162_1, ycgb162_2, ycgb162_3, ycgb162_4, yfgb162_0, yfgb162_1, yfgb162_2, yfgb162_3, yfgb162_4⟩ := k5_ BK162))
 replace BK154 := Aside0.mk (blk_drew BK154.out)
 replace BK162 := Aside0.mk (blk_drew BK162.out)
 replace HB := Aside0.mk (below_drew1 HB.out)
 obtain ⟨i055, hi055, _, hsz55, _⟩ := info_parts info5
 obtain ⟨A55, hcut55, hA55, hC55⟩ := print_mid_of (P := Try.prog) (Value.int .u8) 0 25 5 .i64 .i64 Try.underlying25 hi055 hsz55 (some ad155) c0 l0 12 16 (by omega) (by first | omega | exact of_decide_eq_true as_) (of_decide_eq_true as_) HC0.out
 have HR166 := Aside0.mk (Kd.C_of_reads (h1 := fun _ => rfl) (hA55 _ (Kd.reads_of_C HR0.out)))
 have HC166 := Aside0.mk hC55
 clear hA55 hC55 hi055 hsz55
 refine start_ (n := 10) (S := fun w' => w'.cell? ⟨gb162, 0, none⟩ = some (.int .i64 (wrap64 (rd l0 0))) ∧ w'.cell? ⟨gb162, 1, none⟩ = some (.int .i64 (wrap64 (Go.bits .and .u8 (rd l0 1) 15))) ∧ w'.cell? ⟨gb162, 2, none⟩ = some (.int .i64 (wrap64 ((rd l0 1) / 16))) ∧ w'.cell? ⟨gb162, 3, none⟩ = some (.int .i64 t159) ∧ w'.cell? ⟨gb162, 4, none⟩ = some (.int .i64 t161)) (ds := [9]) #[Z,Z,Z,Z,Z,Z,Z,Z,Z,Z] (by kernel_rfl) rfl rfl ⟨c0_ BK162, c1_ BK162, c2_ BK162, c3_ BK162, c4_ BK162⟩ (fun hHeld => ?_); refine with_tabW insn_first.tab10 insn_first.bits10 (fun HT_ HW_ => ?_)
 generalize w52.drew = w54 at BK154 BK162 HB HR166 hHeld ⊢
 refine pq_ 0 49 #[Y,Z,Z,Z,Z,Z,Z,Z,Z,Z] ?_
 refine pq_ 3 52 #[Y,Z,Z,Y,Z,Z,Z,Z,Z,Z] ?_
 refine pq_ 4 53 #[Y,Z,Z,Y,Y,Z,Z,Z,Z,Z] ?_
 refine tq0_ 1 50 #[Y,Y,Z,Y,Y,Z,Z,Z,Z,Z] hHeld ?_
 refine pq_ 2 51 #[Y,Y,Y,Y,Y,Z,Z,Z,Z,Z] ?_
 refine one_ (i := 5) (N := some 54) #[Y,Y,Y,Y,Y,Y,Z,Z,Z,Z] rfl rfl (one_of HT_.out (by kernel_rfl)) (by decide) (fun K hK => ?_)
 refine goes_ Try.func45 (by kernel_rfl) rfl #[.slice A55 ((l0.take 16).drop 12).length (c0 - 12)] (by rfl) rfl rfl (by (try simp only [List.map_toArray, List.map_cons, List.map_nil]); first | done | (rw [show ((l0.take 16).drop 12).length = (16 - 12) from (by rw [List.length_drop, List.length_take]; have h_ : (16 : Int) ≤ (l0.length : Int) := of_decide_eq_true as_; omega)] <;> rfl) | rfl | (simp only [List.length_drop, List.length_take]; rfl)) ?_
 with_reducible refine (insn_number.calls k _ _ ((l0.take 16).drop 12) t167 _ ?side1 ?side2 A37.out).mono ?_
 (case side1 => exact ca_ (Kd.C_below HR166.out HB.out))
 (case side2 => exact HC166.out)
 rintro e w' ⟨rfl, ⟨nd, rfl⟩⟩
 refine ⟨_, rfl, ?_⟩
 refine hK.out _ _ ⟨c0_ BK162, c1_ BK162, c2_ BK162, c3_ BK162, c4_ BK162⟩ (fun hHeld => ?_)
 clear hK K
 refine norm_ (a' := ?_) ?_ ?_
 rotate_left
 ·show Act.put _ (some 54) _ = _
  simp only [Act.put, s1_, s2_, s3_, i64_w, i32_w]
  rfl
 refine pq_ 6 55 #[Y,Y,Y,Y,Y,Y,Y,Z,Z,Z] ?_
 refine pq_ 7 56 #[Y,Y,Y,Y,Y,Y,Y,Y,Z,Z] ?_
 refine pq_ 8 57 #[Y,Y,Y,Y,Y,Y,Y,Y,Y,Z] ?_
 refine last_ (i := 9) (N := none) #[Y,Y,Y,Y,Y,Y,Y,Y,Y,Y] rfl rfl (one_of HT_.out (by kernel_rfl)) (by decide) (fun K hK => ?_)
 have hs56 := c4_ BK162
 have hfs56 := fz_ BK162 4
 have hns56_0 := NB154_162.out
 have hms56_0 := NB162_154.out
 refine skip_ (w1 := ?_) (by rfl) rfl ?_ ?_
 rotate_left
 ·go_simp
  rfl
 refine hK.out _ _ ?_
 clear hK K
 refine done_ (done_of HT_.out (by kernel_rfl)) ?_
 try go_wp2
 have n0_ : Aside0 (((w54.drewN nd).setCell ⟨gb162, 4, none⟩ (.int .i64 (Go.bits .or .i64 (Go.bits .and .i64 t161 4294967295) (wrap64 (t167 * 4294967296))))).heap[gb154]? = some (.cells #[.int .i64 0, .int .i64 0, .int .i64 0, .int .i64 0, .int .i64 0] 40 (0, 0))) := ⟨by (with_reducible repeat (first | apply bN_ | apply bD_ | apply bA_)); refine blk_far ?_ NB154_162.out _; exact bk_⟩
 have n1_ : Aside0 (((w54.drewN nd).setCell ⟨gb162, 4, none⟩ (.int .i64 (Go.bits .or .i64 (Go.bits .and .i64 t161 4294967295) (wrap64 (t167 * 4294967296))))).heap[gb162]? = some (.cells #[.int .i64 (wrap64 (rd l0 0)), .int .i64 (wrap64 (Go.bits .and .u8 (rd l0 1) 15)), .int .i64 (wrap64 ((rd l0 1) / 16)), .int .i64 t159, .int .i64 (Go.bits .or .i64 (Go.bits .and .i64 t161 4294967295) (wrap64 (t167 * 4294967296)))] 40 (0, 0))) := ⟨by (with_reducible repeat (first | apply bN_ | apply bD_ | apply bA_)); refine blk_put (cs := #[.int .i64 (wrap64 (rd l0 0)), .int .i64 (wrap64 (Go.bits .and .u8 (rd l0 1) 15)), .int .i64 (wrap64 ((rd l0 1) / 16)), .int .i64 t159, .int .i64 t161]) ?_ 4 _ rfl; exact bk_⟩
 have n2_ : Aside0 (Below w.heap.size w ((w54.drewN nd).setCell ⟨gb162, 4, none⟩ (.int .i64 (Go.bits .or .i64 (Go.bits .and .i64 t161 4294967295) (wrap64 (t167 * 4294967296)))))) := ⟨bz_⟩
 (try clear BK154)
 (try clear BK162)
 (try clear HB)
 generalize ((w54.drewN nd).setCell ⟨gb162, 4, none⟩ (.int .i64 (Go.bits .or .i64 (Go.bits .and .i64 t161 4294967295) (wrap64 (t167 * 4294967296))))) = w57 at n0_ n1_ n2_ ⊢
 have BK154 := n0_
 have BK162 := n1_
 have HB := n2_
 clear n0_ n1_ n2_
 (try (rw [drewN_self w57]; generalize hq_ : World.drewN w57 _ = w57; have n0_ : Aside0 (w57.heap[gb154]? = some (.cells #[.int .i64 0, .int .i64 0, .int .i64 0, .int .i64 0, .int .i64 0] 40 (0, 0))) := ⟨by rw [← hq_]; exact bk_⟩; have n1_ : Aside0 (w57.heap[gb162]? = some (.cells #[.int .i64 (wrap64 (rd l0 0)), .int .i64 (wrap64 (Go.bits .and .u8 (rd l0 1) 15)), .int .i64 (wrap64 ((rd l0 1) / 16)), .int .i64 t159, .int .i64 (Go.bits .or .i64 (Go.bits .and .i64 t161 4294967295) (wrap64 (t167 * 4294967296)))] 40 (0, 0))) := ⟨by rw [← hq_]; exact bk_⟩; have n2_ : Aside0 (Below w.heap.size w w57) := ⟨by rw [← hq_]; exact bz_⟩; clear BK154 BK162 HB hq_; have BK154 := n0_; have BK162 := n1_; have HB := n2_; clear n0_ n1_ n2_))
 replace BK154 := Aside0.mk (blk_drew BK154.out)
 replace BK162 := Aside0.mk (blk_drew BK162.out)
 replace HB := Aside0.mk (below_drew1 HB.out)
 refine start_ (n := 7) (S := fun w' => w'.cell? ⟨gb162, 0, none⟩ = some (.int .i64 (wrap64 (rd l0 0))) ∧ w'.cell? ⟨gb162, 1, none⟩ = some (.int .i64 (wrap64 (Go.bits .and .u8 (rd l0 1) 15))) ∧ w'.cell? ⟨gb162, 2, none⟩ = some (.int .i64 (wrap64 ((rd l0 1) / 16))) ∧ w'.cell? ⟨gb162, 3, none⟩ = some (.int .i64 t159) ∧ w'.cell? ⟨gb162, 4, none⟩ = some (.int .i64 (Go.bits .or .i64 (Go.bits .and .i64 t161 4294967295) (wrap64 (t167 * 4294967296))))) (ds := []) #[Z,Z,Z,Z,Z,Z,Z] (by kernel_rfl) rfl rfl ⟨c0_ BK162, c1_ BK162, c2_ BK162, c3_ BK162, c4_ BK162⟩ (fun hHeld => ?_)
 generalize w57.drew = w58 at BK154 BK162 HB hHeld ⊢
 refine pure_ (i := 1) (N := some 59) (v := ?_) (a' := ?_) #[Z,Y,Z,Z,Z,Z,Z] rfl rfl (by kernel_rfl) (fun _ _ _ h => h) (Or.inl ⟨by rfl, ?_⟩) ?_ ?_
 rotate_left
 ·intro w'
  go_simp
  with_reducible rfl
 rotate_left
 ·simp only [Act.put, s1_, s2_, s3_, i64_w, i32_w]
  rfl
 refine take_ (i := 0) (N := some 58) (v := ?_) (a' := ?_) #[Y,Y,Z,Z,Z,Z,Z] rfl rfl (by kernel_rfl) (fun _ _ _ h => h) (Or.inl ⟨by rfl, ?_⟩) hHeld ?_ ?_
 rotate_left
 ·rintro w' ⟨s0, s1, s2, s3, s4⟩
  go_simp
  with_reducible rfl
 rotate_left
 ·simp only [Act.put, s1_, s2_, s3_, i64_w, i32_w]
  rfl
 refine take_ (i := 2) (N := some 60) (v := ?_) (a' := ?_) #[Y,Y,Y,Z,Z,Z,Z] rfl rfl (by kernel_rfl) (fun _ _ _ h => h) (Or.inl ⟨by rfl, ?_⟩) hHeld ?_ ?_
 rotate_left
 ·rintro w' ⟨s0, s1, s2, s3, s4⟩
  go_simp
  with_reducible rfl
 rotate_left
 ·simp only [Act.put, s1_, s2_, s3_, i64_w, i32_w]
  rfl
 refine one_ (i := 3) (N := some 61) #[Y,Y,Y,Y,Z,Z,Z] rfl rfl (by kernel_rfl) (by decide) (fun K hK => ?_)
 refine goes_ Try.func25 (by kernel_rfl) rfl #[.agg #[.int .i64 (wrap64 (rd l0 0)), .int .i64 (wrap64 (Go.bits .and .u8 (rd l0 1) 15)), .int .i64 (wrap64 ((rd l0 1) / 16)), .int .i64 t159, .int .i64 (Go.bits .or .i64 (Go.bits .and .i64 t161 4294967295) (wrap64 (t167 * 4294967296)))]] (by rfl) rfl rfl (by (try simp only [List.map_toArray, List.map_cons, List.map_nil]); first | done | rfl | (simp only [List.length_drop, List.length_take]; rfl)) ?_
 with_reducible refine (insn_Check.calls k (wrap64 (rd l0 0)) (wrap64 (Go.bits .and .u8 (rd l0 1) 15)) (wrap64 ((rd l0 1) / 16)) t159 (Go.bits .or .i64 (Go.bits .and .i64 t161 4294967295) (wrap64 (t167 * 4294967296))) t168 _ A38.out).mono ?_
 rintro e w59 ⟨rfl, hb⟩
 refine ⟨_, rfl, ?_⟩
 replace BK154 := bb_ hb BK154
 replace BK162 := Aside0.mk (blk_below (g := gb162) (o := .cells #[.int .i64 (wrap64 (rd l0 0)), .int .i64 (wrap64 (Go.bits .and .u8 (rd l0 1) 15)), .int .i64 (wrap64 ((rd l0 1) / 16)), .int .i64 t159, .int .i64 (Go.bits .or .i64 (Go.bits .and .i64 t161 4294967295) (wrap64 (t167 * 4294967296)))] 40 (0, 0)) bk_ hb)
 replace HB := bl_ hb
 try clear hb
 refine hK.out _ _ ⟨c0_ BK162, c1_ BK162, c2_ BK162, c3_ BK162, c4_ BK162⟩ (fun hHeld => ?_)
 clear hK K
 refine norm_ (a' := ?_) ?_ ?_
 rotate_left
 ·show Act.put _ (some 61) _ = _
  simp only [Act.put, s1_, s2_, s3_, i64_w, i32_w]
  rfl
 refine one_ (i := 4) (N := none) #[Y,Y,Y,Y,Y,Z,Z] rfl rfl (by kernel_rfl) (by decide) (fun K hK => ?_)
 obtain ⟨hs60, hfs60⟩ := k1_ BK154
 have hns60_1 := NB162_154.out
 have hms60_1 := NB154_162.out
 have hs61 := c1_ BK154
 have hfs61 := fz_ BK154 1
 have hns61_1 := NB162_154.out
 have hms61_1 := NB154_162.out
 have hs62 := c2_ BK154
 have hfs62 := fz_ BK154 2
 have hns62_1 := NB162_154.out
 have hms62_1 := NB154_162.out
 have hs63 := c3_ BK154
 have hfs63 := fz_ BK154 3
 have hns63_1 := NB162_154.out
 have hms63_1 := NB154_162.out
 have hs64 := c4_ BK154
 have hfs64 := fz_ BK154 4
 have hns64_1 := NB162_154.out
 have hms64_1 := NB154_162.out
 refine skip_ (w1 := ?_) (by rfl) rfl ?_ ?_
 rotate_left
 ·go_simp
  rfl
 refine hK.out _ _ ⟨((cell_far (p := ⟨gb154, _, none⟩) NB162_154.out _).trans (((cell_far (p := ⟨gb154, _, none⟩) NB162_154.out _).trans (((cell_far (p := ⟨gb154, _, none⟩) NB162_154.out _).trans (((cell_far (p := ⟨gb154, _, none⟩) NB162_154.out _).trans (((cell_far (p := ⟨gb154, _, none⟩) NB162_154.out _).trans (hHeld.1)))))))))), ((cell_far (p := ⟨gb154, _, none⟩) NB162_154.out _).trans (((cell_far (p := ⟨gb154, _, none⟩) NB162_154.out _).trans (((cell_far (p := ⟨gb154, _, none⟩) NB162_154.out _).trans (((cell_far (p := ⟨gb154, _, none⟩) NB162_154.out _).trans (((cell_far (p := ⟨gb154, _, none⟩) NB162_154.out _).trans (hHeld.2.1)))))))))), ((cell_far (p := ⟨gb154, _, none⟩) NB162_154.out _).trans (((cell_far (p := ⟨gb154, _, none⟩) NB162_154.out _).trans (((cell_far (p := ⟨gb154, _, none⟩) NB162_154.out _).trans (((cell_far (p := ⟨gb154, _, none⟩) NB162_154.out _).trans (((cell_far (p := ⟨gb154, _, none⟩) NB162_154.out _).trans (hHeld.2.2.1)))))))))), ((cell_far (p := ⟨gb154, _, none⟩) NB162_154.out _).trans (((cell_far (p := ⟨gb154, _, none⟩) NB162_154.out _).trans (((cell_far (p := ⟨gb154, _, none⟩) NB162_154.out _).trans (((cell_far (p := ⟨gb154, _, none⟩) NB162_154.out _).trans (((cell_far (p := ⟨gb154, _, none⟩) NB162_154.out _).trans (hHeld.2.2.2.1)))))))))), ((cell_far (p := ⟨gb154, _, none⟩) NB162_154.out _).trans (((cell_far (p := ⟨gb154, _, none⟩) NB162_154.out _).trans (((cell_far (p := ⟨gb154, _, none⟩) NB162_154.out _).trans (((cell_far (p := ⟨gb154, _, none⟩) NB162_154.out _).trans (((cell_far (p := ⟨gb154, _, none⟩) NB162_154.out _).trans (hHeld.2.2.2.2))))))))))⟩ (fun hHeld => ?_)
 clear hK K
 refine pure_ (i := 5) (N := some 3) (v := ?_) (a' := ?_) #[Y,Y,Y,Y,Y,Y,Z] rfl rfl (by kernel_rfl) (fun _ _ _ h => h) (Or.inl ⟨by rfl, ?_⟩) ?_ ?_
 rotate_left
 ·intro w'
  go_simp
  with_reducible rfl
 rotate_left
 ·simp only [Act.put, s1_, s2_, s3_, i64_w, i32_w]
  rfl
 refine pure_ (i := 6) (N := some 4) (v := ?_) (a' := ?_) #[Y,Y,Y,Y,Y,Y,Y] rfl rfl (by kernel_rfl) (fun _ _ _ h => h) (Or.inl ⟨by rfl, ?_⟩) ?_ ?_
 rotate_left
 ·intro w'
  go_simp
  with_reducible rfl
 rotate_left
 ·simp only [Act.put, s1_, s2_, s3_, i64_w, i32_w]
  rfl
 refine done_ (by kernel_rfl) ?_
 try go_wp2
 refine bodyPost_ret (results_ctt rfl _ _ gb154 40 #[.int .i64 (wrap64 (rd l0 0)), .int .i64 (wrap64 (Go.bits .and .u8 (rd l0 1) 15)), .int .i64 (wrap64 ((rd l0 1) / 16)), .int .i64 t159, .int .i64 (Go.bits .or .i64 (Go.bits .and .i64 t161 4294967295) (wrap64 (t167 * 4294967296)))] (0, 0) _ rfl (by (with_reducible repeat (first | apply bN_ | apply bD_ | apply bA_)); refine blk_put (cs := #[.int .i64 (wrap64 (rd l0 0)), .int .i64 (wrap64 (Go.bits .and .u8 (rd l0 1) 15)), .int .i64 (wrap64 ((rd l0 1) / 16)), .int .i64 t159, .int .i64 0]) ?_ 4 _ rfl; (with_reducible repeat (first | apply bN_ | apply bD_ | apply bA_)); refine blk_put (cs := #[.int .i64 (wrap64 (rd l0 0)), .int .i64 (wrap64 (Go.bits .and .u8 (rd l0 1) 15)), .int .i64 (wrap64 ((rd l0 1) / 16)), .int .i64 0, .int .i64 0]) ?_ 3 _ rfl; (with_reducible repeat (first | apply bN_ | apply bD_ | apply bA_)); refine blk_put (cs := #[.int .i64 (wrap64 (rd l0 0)), .int .i64 (wrap64 (Go.bits .and .u8 (rd l0 1) 15)), .int .i64 0, .int .i64 0, .int .i64 0]) ?_ 2 _ rfl; (with_reducible repeat (first | apply bN_ | apply bD_ | apply bA_)); refine blk_put (cs := #[.int .i64 (wrap64 (rd l0 0)), .int .i64 0, .int .i64 0, .int .i64 0, .int .i64 0]) ?_ 1 _ rfl; (with_reducible repeat (first | apply bN_ | apply bD_ | apply bA_)); refine blk_put (cs := #[.int .i64 0, .int .i64 0, .int .i64 0, .int .i64 0, .int .i64 0]) ?_ 0 _ rfl; exact bk_) Try.underlying40 rfl (by kernel_rfl)) rfl ?_
 exact ⟨vv_, bz_⟩
end Go.Proofs.Yticijjonimiooaa.PA
