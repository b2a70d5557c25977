-- PRINTED by print.py (a twelfth state) out of the translation. Not trusted: Lean checks it.
import Derived.Test.YtceclodenhgoeaaGreatWTab
import Derived.Test.YtceclodenhgoeaaGreatPA0
import Derived.Test.YtceclodenhgoeaaGreatSq
namespace Go.Proofs.YtceclodenhgoeaaGreat.PA
open Go.RowKit Go.Proofs.YtceclodenhgoeaaGreatW.PrintWords Go.Proofs.YtceclodenhgoeaaGreatW.PrintLast Go.Proofs.YtceclodenhgoeaaGreatW.PrintMore
attribute [local go_sem] max2_int min2_int max_two min_two max_three min_three max_four min_four   -- for this text's walks alone
set_option linter.unusedVariables false
set_option linter.unusedSimpArgs false

/-! ### tnum_Of: function 58 -/
/-! ### tnum_Any: function 64 -/
def tnum_Any.f  : Option (Int × Int) := some (0, 18446744073709551615)
set_option maxHeartbeats 8000000 in
set_option maxRecDepth 100000 in
theorem tnum_Any.calls  (r1 : Int) (r2 : Int) (w : World) (h : tnum_Any.f  = some (r1, r2)) :
 Calls Tryz.prog 64 #[] w fun e w' => e = .returned (.agg #[.int .u64 r1, .int .u64 r2]) ∧ Below w.heap.size w w' := by
 have hu24 := Tryz.underlying24
 have HB := Aside0.mk (Below.refl w.heap.size w)
 have H : (some (0, 18446744073709551615)) = some (r1, r2) := h
 clear h
 simp only [Option.some.injEq, Prod.mk.injEq] at H
 obtain ⟨rfl, rfl⟩ := H
 go_enter Tryz.func64, Tryz.ntmps64
 go_wp2_with (first | ((with_reducible refine gate_dst (N := 0) rfl ?_); refine bx_ 0 #[.int .u64 0, .int .u64 0] 24 ?_; intro gb116 hg w1 BK116 hb; have GW116 := bg_ hg; have GE116 := GW116; replace HB := bl_ hb; clear hb hg; obtain ⟨zc2_0, zc2_1, zf2_0, zf2_1⟩ := k2_ BK116))
 refine bodyPost_ret (results_cell_row rfl _ _ gb116 24 #[.int .u64 0, .int .u64 18446744073709551615] (0, 0) _ rfl (by (with_reducible repeat (first | apply bN_ | apply bD_ | apply bA_)); refine blk_put (cs := #[.int .u64 0, .int .u64 0]) ?_ 1 _ rfl; (with_reducible repeat (first | apply bN_ | apply bD_ | apply bA_)); refine blk_put (cs := #[.int .u64 0, .int .u64 0]) ?_ 0 _ rfl; exact bk_) Tryz.underlying24 rfl (by kernel_rfl)) rfl ?_
 exact ⟨vv_, bz_⟩

/-! ### tnum_Cut: function 92 -/
/-! ### tnum_Lsh: function 94 -/
def tnum_Lsh.f (a0_0 : Int) (a0_1 : Int) (a1 : Int) : Option (Int × Int) := if 0 ≤ (Int.tmod (IntKind.u64.wrap (a1)) 64) then (some (shl .u64 a0_0 (Int.tmod (IntKind.u64.wrap (a1)) 64), shl .u64 a0_1 (Int.tmod (IntKind.u64.wrap (a1)) 64))) else (none)
set_option maxHeartbeats 8000000 in
set_option maxRecDepth 100000 in
theorem tnum_Lsh.calls (a0_0 : Int) (a0_1 : Int) (a1 : Int) (r1 : Int) (r2 : Int) (w : World) (h : tnum_Lsh.f a0_0 a0_1 a1 = some (r1, r2)) :
 Calls Tryz.prog 94 #[.agg #[.int .u64 a0_0, .int .u64 a0_1], .int .i64 a1] w fun e w' => e = .returned (.agg #[.int .u64 r1, .int .u64 r2]) ∧ Below w.heap.size w w' := by
 have hu24 := Tryz.underlying24
 have HB := Aside0.mk (Below.refl w.heap.size w)
 have H : (if 0 ≤ (Int.tmod (IntKind.u64.wrap (a1)) 64) then (some (shl .u64 a0_0 (Int.tmod (IntKind.u64.wrap (a1)) 64), shl .u64 a0_1 (Int.tmod (IntKind.u64.wrap (a1)) 64))) else (none)) = some (r1, r2) := h
 clear h
 obtain ⟨ji3, hji3⟩ : ∃ j_ : Int, (Int.tmod (IntKind.u64.wrap (a1)) 64) = j_ := ⟨_, rfl⟩
 replace H : (if 0 ≤ (ji3) then (some (shl .u64 a0_0 (ji3), shl .u64 a0_1 (ji3))) else (none)) = some (r1, r2) := by first | (rw [hji3] at H; exact H) | (simp only [hji3] at H ⊢; exact H)
 by_cases c4 : 0 ≤ (ji3)
 ·rw [if_pos c4] at H
  have c4b0 := eq_true c4
  have c4b1 : decide (0 ≤ (ji3)) = true := decide_eq_true c4
  clear c4
  obtain ⟨ji5, hji5⟩ : ∃ j_ : Int, (shl .u64 a0_0 (ji3)) = j_ := ⟨_, rfl⟩
  replace H : (some (ji5, shl .u64 a0_1 (ji3))) = some (r1, r2) := by first | (rw [hji5] at H; exact H) | (simp only [hji5] at H ⊢; exact H)
  have hji5_ : (IntKind.u64.wrap (a0_0 * 2 ^ min (ji3).toNat 64)) = ji5 := hji5
  have hji5z : (ji3) ≤ 64 → (IntKind.u64.wrap (a0_0 * 2 ^ (ji3).toNat)) = ji5 := shl_small hji5
  have c6b0 := eq_true (of_decide_eq_true (by first | (with_reducible assumption) | assumption) : 0 ≤ (ji3))
  obtain ⟨ji7, hji7⟩ : ∃ j_ : Int, (shl .u64 a0_1 (ji3)) = j_ := ⟨_, rfl⟩
  replace H : (some (ji5, ji7)) = some (r1, r2) := by first | (rw [hji7] at H; exact H) | (simp only [hji7] at H ⊢; exact H)
  have hji7_ : (IntKind.u64.wrap (a0_1 * 2 ^ min (ji3).toNat 64)) = ji7 := hji7
  have hji7z : (ji3) ≤ 64 → (IntKind.u64.wrap (a0_1 * 2 ^ (ji3).toNat)) = ji7 := shl_small hji7
  simp only [Option.some.injEq, Prod.mk.injEq] at H
  obtain ⟨rfl, rfl⟩ := H
  go_enter Tryz.func94, Tryz.ntmps94
  go_wp2_with (first | ((with_reducible refine gate_dst (N := 2) rfl ?_); refine bx_ 2 #[.int .u64 a0_0, .int .u64 a0_1] 24 ?_; intro gb169 hg w8 BK169 hb; have GW169 := bg_ hg; have GE169 := GW169; replace HB := bl_ hb; clear hb hg) | ((with_reducible refine gate_dst (N := 4) rfl ?_); refine bx_ 4 #[.int .u64 0, .int .u64 0] 24 ?_; intro gb170 hg w9 BK170 hb; have GW170 := bg_ hg; have GE170 := GW170; have NB169_170 := bm_ hg BK169; have NB170_169 := bn_ hg BK169; replace BK169 := bb_ hb BK169; replace HB := bl_ hb; clear hb hg; have hnb10 := NB169_170.out; have hnc10 := NB170_169.out; obtain ⟨zc11_0, zc11_1, zf11_0, zf11_1⟩ := k2_ BK169; obtain ⟨zc12_0, zc12_1, zf12_0, zf12_1⟩ := k2_ BK170))
  refine bodyPost_ret (results_cell_row rfl _ _ gb170 24 #[.int .u64 ji5, .int .u64 ji7] (0, 0) _ rfl (by (with_reducible repeat (first | apply bN_ | apply bD_ | apply bA_)); refine blk_put (cs := #[.int .u64 ji5, .int .u64 0]) ?_ 1 _ rfl; (with_reducible repeat (first | apply bN_ | apply bD_ | apply bA_)); refine blk_put (cs := #[.int .u64 0, .int .u64 0]) ?_ 0 _ rfl; exact bk_) Tryz.underlying24 rfl (by kernel_rfl)) rfl ?_
  exact ⟨by first | rfl | (simp [errW_none, errW_some] <;> rfl) | (simp only [← hji3, ← hji5, ← hji7]; first | rfl | (simp [errW_none, errW_some] <;> rfl)) | (simp [*, errW_none, errW_some] <;> rfl), bz_⟩
 ·rw [if_neg c4] at H
  exact absurd H (by simp)

/-! ### tnum_Rsh: function 96 -/
def tnum_Rsh.f (a0_0 : Int) (a0_1 : Int) (a1 : Int) : Option (Int × Int) := if 0 ≤ (Int.tmod (IntKind.u64.wrap (a1)) 64) then (some (shr .u64 a0_0 (Int.tmod (IntKind.u64.wrap (a1)) 64), shr .u64 a0_1 (Int.tmod (IntKind.u64.wrap (a1)) 64))) else (none)
set_option maxHeartbeats 8000000 in
set_option maxRecDepth 100000 in
theorem tnum_Rsh.calls (a0_0 : Int) (a0_1 : Int) (a1 : Int) (r1 : Int) (r2 : Int) (w : World) (h : tnum_Rsh.f a0_0 a0_1 a1 = some (r1, r2)) :
 Calls Tryz.prog 96 #[.agg #[.int .u64 a0_0, .int .u64 a0_1], .int .i64 a1] w fun e w' => e = .returned (.agg #[.int .u64 r1, .int .u64 r2]) ∧ Below w.heap.size w w' := by
 have hu24 := Tryz.underlying24
 have HB := Aside0.mk (Below.refl w.heap.size w)
 have H : (if 0 ≤ (Int.tmod (IntKind.u64.wrap (a1)) 64) then (some (shr .u64 a0_0 (Int.tmod (IntKind.u64.wrap (a1)) 64), shr .u64 a0_1 (Int.tmod (IntKind.u64.wrap (a1)) 64))) else (none)) = some (r1, r2) := h
 clear h
 obtain ⟨ji3, hji3⟩ : ∃ j_ : Int, (Int.tmod (IntKind.u64.wrap (a1)) 64) = j_ := ⟨_, rfl⟩
 replace H : (if 0 ≤ (ji3) then (some (shr .u64 a0_0 (ji3), shr .u64 a0_1 (ji3))) else (none)) = some (r1, r2) := by first | (rw [hji3] at H; exact H) | (simp only [hji3] at H ⊢; exact H)
 by_cases c4 : 0 ≤ (ji3)
 ·rw [if_pos c4] at H
  have c4b0 := eq_true c4
  have c4b1 : decide (0 ≤ (ji3)) = true := decide_eq_true c4
  clear c4
  obtain ⟨ji5, hji5⟩ : ∃ j_ : Int, (shr .u64 a0_0 (ji3)) = j_ := ⟨_, rfl⟩
  replace H : (some (ji5, shr .u64 a0_1 (ji3))) = some (r1, r2) := by first | (rw [hji5] at H; exact H) | (simp only [hji5] at H ⊢; exact H)
  have hji5_ : (a0_0 / 2 ^ min (ji3).toNat 64) = ji5 := hji5
  have hji5z : (ji3) ≤ 64 → (a0_0 / 2 ^ (ji3).toNat) = ji5 := shr_small hji5
  have c6b0 := eq_true (of_decide_eq_true (by first | (with_reducible assumption) | assumption) : 0 ≤ (ji3))
  obtain ⟨ji7, hji7⟩ : ∃ j_ : Int, (shr .u64 a0_1 (ji3)) = j_ := ⟨_, rfl⟩
  replace H : (some (ji5, ji7)) = some (r1, r2) := by first | (rw [hji7] at H; exact H) | (simp only [hji7] at H ⊢; exact H)
  have hji7_ : (a0_1 / 2 ^ min (ji3).toNat 64) = ji7 := hji7
  have hji7z : (ji3) ≤ 64 → (a0_1 / 2 ^ (ji3).toNat) = ji7 := shr_small hji7
  simp only [Option.some.injEq, Prod.mk.injEq] at H
  obtain ⟨rfl, rfl⟩ := H
  go_enter Tryz.func96, Tryz.ntmps96
  go_wp2_with (first | ((with_reducible refine gate_dst (N := 2) rfl ?_); refine bx_ 2 #[.int .u64 a0_0, .int .u64 a0_1] 24 ?_; intro gb175 hg w8 BK175 hb; have GW175 := bg_ hg; have GE175 := GW175; replace HB := bl_ hb; clear hb hg) | ((with_reducible refine gate_dst (N := 4) rfl ?_); refine bx_ 4 #[.int .u64 0, .int .u64 0] 24 ?_; intro gb176 hg w9 BK176 hb; have GW176 := bg_ hg; have GE176 := GW176; have NB175_176 := bm_ hg BK175; have NB176_175 := bn_ hg BK175; replace BK175 := bb_ hb BK175; replace HB := bl_ hb; clear hb hg; have hnb10 := NB175_176.out; have hnc10 := NB176_175.out; obtain ⟨zc11_0, zc11_1, zf11_0, zf11_1⟩ := k2_ BK175; obtain ⟨zc12_0, zc12_1, zf12_0, zf12_1⟩ := k2_ BK176))
  refine bodyPost_ret (results_cell_row rfl _ _ gb176 24 #[.int .u64 ji5, .int .u64 ji7] (0, 0) _ rfl (by (with_reducible repeat (first | apply bN_ | apply bD_ | apply bA_)); refine blk_put (cs := #[.int .u64 ji5, .int .u64 0]) ?_ 1 _ rfl; (with_reducible repeat (first | apply bN_ | apply bD_ | apply bA_)); refine blk_put (cs := #[.int .u64 0, .int .u64 0]) ?_ 0 _ rfl; exact bk_) Tryz.underlying24 rfl (by kernel_rfl)) rfl ?_
  exact ⟨by first | rfl | (simp [errW_none, errW_some] <;> rfl) | (simp only [← hji3, ← hji5, ← hji7]; first | rfl | (simp [errW_none, errW_some] <;> rfl)) | (simp [*, errW_none, errW_some] <;> rfl), bz_⟩
 ·rw [if_neg c4] at H
  exact absurd H (by simp)

/-! ### tnum_Arsh: function 98 -/
def tnum_Arsh.f (a0_0 : Int) (a0_1 : Int) (a1 : Int) (a2 : Int) : Option (Int × Int) := if a2 = 64 then (if 0 ≤ (Int.tmod (IntKind.u64.wrap (a1)) 64) then (some (IntKind.u64.wrap (shr .i64 (wrap64 (a0_0)) (Int.tmod (IntKind.u64.wrap (a1)) 64)), IntKind.u64.wrap (shr .i64 (wrap64 (a0_1)) (Int.tmod (IntKind.u64.wrap (a1)) 64)))) else (none)) else (if a2 = 32 then (if 0 ≤ (Int.tmod (IntKind.u64.wrap (a1)) 32) then (some ((shr .i32 (wrap32 ((a0_0) % 4294967296)) (Int.tmod (IntKind.u64.wrap (a1)) 32)) % 4294967296, (shr .i32 (wrap32 ((a0_1) % 4294967296)) (Int.tmod (IntKind.u64.wrap (a1)) 32)) % 4294967296)) else (none)) else ((tnum_Any.f).bind fun bt181 => (some (bt181.1, bt181.2))))
set_option maxHeartbeats 8000000 in
set_option maxRecDepth 100000 in
theorem tnum_Arsh.calls (a0_0 : Int) (a0_1 : Int) (a1 : Int) (a2 : Int) (r1 : Int) (r2 : Int) (w : World) (h : tnum_Arsh.f a0_0 a0_1 a1 a2 = some (r1, r2)) :
 Calls Tryz.prog 98 #[.agg #[.int .u64 a0_0, .int .u64 a0_1], .int .i64 a1, .int .i64 a2] w fun e w' => e = .returned (.agg #[.int .u64 r1, .int .u64 r2]) ∧ Below w.heap.size w w' := by
 have hu24 := Tryz.underlying24
 have HB := Aside0.mk (Below.refl w.heap.size w)
 have H : (if a2 = 64 then (if 0 ≤ (Int.tmod (IntKind.u64.wrap (a1)) 64) then (some (IntKind.u64.wrap (shr .i64 (wrap64 (a0_0)) (Int.tmod (IntKind.u64.wrap (a1)) 64)), IntKind.u64.wrap (shr .i64 (wrap64 (a0_1)) (Int.tmod (IntKind.u64.wrap (a1)) 64)))) else (none)) else (if a2 = 32 then (if 0 ≤ (Int.tmod (IntKind.u64.wrap (a1)) 32) then (some ((shr .i32 (wrap32 ((a0_0) % 4294967296)) (Int.tmod (IntKind.u64.wrap (a1)) 32)) % 4294967296, (shr .i32 (wrap32 ((a0_1) % 4294967296)) (Int.tmod (IntKind.u64.wrap (a1)) 32)) % 4294967296)) else (none)) else ((tnum_Any.f).bind fun bt181 => (some (bt181.1, bt181.2))))) = some (r1, r2) := h
 clear h
 by_cases c4 : a2 = 64
 ·rw [if_pos c4] at H
  have c4b0 : (a2 == 64) = true := beq_iff_eq.mpr c4
  have c4b1 : (a2 != 64) = false := bne_eq_false_iff_eq.mpr c4
  clear c4
  obtain ⟨ji5, hji5⟩ : ∃ j_ : Int, (Int.tmod (IntKind.u64.wrap (a1)) 64) = j_ := ⟨_, rfl⟩
  replace H : (if 0 ≤ (ji5) then (some (IntKind.u64.wrap (shr .i64 (wrap64 (a0_0)) (ji5)), IntKind.u64.wrap (shr .i64 (wrap64 (a0_1)) (ji5)))) else (none)) = some (r1, r2) := by first | (rw [hji5] at H; exact H) | (simp only [hji5] at H ⊢; exact H)
  by_cases c6 : 0 ≤ (ji5)
  ·rw [if_pos c6] at H
   have c6b0 := eq_true c6
   have c6b1 : decide (0 ≤ (ji5)) = true := decide_eq_true c6
   clear c6
   obtain ⟨ji7, hji7⟩ : ∃ j_ : Int, (shr .i64 (wrap64 (a0_0)) (ji5)) = j_ := ⟨_, rfl⟩
   replace H : (some (IntKind.u64.wrap (ji7), IntKind.u64.wrap (shr .i64 (wrap64 (a0_1)) (ji5)))) = some (r1, r2) := by first | (rw [hji7] at H; exact H) | (simp only [hji7] at H ⊢; exact H)
   have hji7_ : ((wrap64 (a0_0)) / 2 ^ min (ji5).toNat 64) = ji7 := hji7
   have hji7z : (ji5) ≤ 64 → ((wrap64 (a0_0)) / 2 ^ (ji5).toNat) = ji7 := shr_small hji7
   have c8b0 := eq_true (of_decide_eq_true (by first | (with_reducible assumption) | assumption) : 0 ≤ (ji5))
   obtain ⟨ji9, hji9⟩ : ∃ j_ : Int, (shr .i64 (wrap64 (a0_1)) (ji5)) = j_ := ⟨_, rfl⟩
   replace H : (some (IntKind.u64.wrap (ji7), IntKind.u64.wrap (ji9))) = some (r1, r2) := by first | (rw [hji9] at H; exact H) | (simp only [hji9] at H ⊢; exact H)
   have hji9_ : ((wrap64 (a0_1)) / 2 ^ min (ji5).toNat 64) = ji9 := hji9
   have hji9z : (ji5) ≤ 64 → ((wrap64 (a0_1)) / 2 ^ (ji5).toNat) = ji9 := shr_small hji9
   simp only [Option.some.injEq, Prod.mk.injEq] at H
   obtain ⟨rfl, rfl⟩ := H
   go_enter Tryz.func98, Tryz.ntmps98
   go_wp2_with (first | ((with_reducible refine gate_dst (N := 3) rfl ?_); refine bx_ 3 #[.int .u64 a0_0, .int .u64 a0_1] 24 ?_; intro gb179 hg w10 BK179 hb; have GW179 := bg_ hg; have GE179 := GW179; replace HB := bl_ hb; clear hb hg) | ((with_reducible refine gate_dst (N := 6) rfl ?_); refine bx_ 6 #[.int .u64 0, .int .u64 0] 24 ?_; intro gb180 hg w11 BK180 hb; have GW180 := bg_ hg; have GE180 := GW180; have NB179_180 := bm_ hg BK179; have NB180_179 := bn_ hg BK179; replace BK179 := bb_ hb BK179; replace HB := bl_ hb; clear hb hg; have hnb12 := NB179_180.out; have hnc12 := NB180_179.out; obtain ⟨zc13_0, zc13_1, zf13_0, zf13_1⟩ := k2_ BK179; obtain ⟨zc14_0, zc14_1, zf14_0, zf14_1⟩ := k2_ BK180))
   refine bodyPost_ret (results_cell_row rfl _ _ gb180 24 #[.int .u64 (IntKind.u64.wrap (ji7)), .int .u64 (IntKind.u64.wrap (ji9))] (0, 0) _ rfl (by (with_reducible repeat (first | apply bN_ | apply bD_ | apply bA_)); refine blk_put (cs := #[.int .u64 (IntKind.u64.wrap (ji7)), .int .u64 0]) ?_ 1 _ rfl; (with_reducible repeat (first | apply bN_ | apply bD_ | apply bA_)); refine blk_put (cs := #[.int .u64 0, .int .u64 0]) ?_ 0 _ rfl; exact bk_) Tryz.underlying24 rfl (by kernel_rfl)) rfl ?_
   exact ⟨by first | rfl | (simp [errW_none, errW_some] <;> rfl) | (simp only [← hji5, ← hji7, ← hji9]; first | rfl | (simp [errW_none, errW_some] <;> rfl)) | (simp [*, errW_none, errW_some] <;> rfl), bz_⟩
  ·rw [if_neg c6] at H
   exact absurd H (by simp)
 ·rw [if_neg c4] at H
  have c4b0 : (a2 == 64) = false := beq_eq_false_iff_ne.mpr c4
  have c4b1 : (a2 != 64) = true := bne_iff_ne.mpr c4
  by_cases c15 : a2 = 32
  ·rw [if_pos c15] at H
   have c15b0 : (a2 == 32) = true := beq_iff_eq.mpr c15
   have c15b1 : (a2 != 32) = false := bne_eq_false_iff_eq.mpr c15
   clear c15
   obtain ⟨ji16, hji16⟩ : ∃ j_ : Int, (Int.tmod (IntKind.u64.wrap (a1)) 32) = j_ := ⟨_, rfl⟩
   replace H : (if 0 ≤ (ji16) then (some ((shr .i32 (wrap32 ((a0_0) % 4294967296)) (ji16)) % 4294967296, (shr .i32 (wrap32 ((a0_1) % 4294967296)) (ji16)) % 4294967296)) else (none)) = some (r1, r2) := by first | (rw [hji16] at H; exact H) | (simp only [hji16] at H ⊢; exact H)
   by_cases c17 : 0 ≤ (ji16)
   ·rw [if_pos c17] at H
    have c17b0 := eq_true c17
    have c17b1 : decide (0 ≤ (ji16)) = true := decide_eq_true c17
    clear c17
    obtain ⟨ji18, hji18⟩ : ∃ j_ : Int, (shr .i32 (wrap32 ((a0_0) % 4294967296)) (ji16)) = j_ := ⟨_, rfl⟩
    replace H : (some ((ji18) % 4294967296, (shr .i32 (wrap32 ((a0_1) % 4294967296)) (ji16)) % 4294967296)) = some (r1, r2) := by first | (rw [hji18] at H; exact H) | (simp only [hji18] at H ⊢; exact H)
    have hji18_ : ((wrap32 ((a0_0) % 4294967296)) / 2 ^ min (ji16).toNat 32) = ji18 := hji18
    have hji18z : (ji16) ≤ 32 → ((wrap32 ((a0_0) % 4294967296)) / 2 ^ (ji16).toNat) = ji18 := shr_small hji18
    have c19b0 := eq_true (of_decide_eq_true (by first | (with_reducible assumption) | assumption) : 0 ≤ (ji16))
    obtain ⟨ji20, hji20⟩ : ∃ j_ : Int, (shr .i32 (wrap32 ((a0_1) % 4294967296)) (ji16)) = j_ := ⟨_, rfl⟩
    replace H : (some ((ji18) % 4294967296, (ji20) % 4294967296)) = some (r1, r2) := by first | (rw [hji20] at H; exact H) | (simp only [hji20] at H ⊢; exact H)
    have hji20_ : ((wrap32 ((a0_1) % 4294967296)) / 2 ^ min (ji16).toNat 32) = ji20 := hji20
    have hji20z : (ji16) ≤ 32 → ((wrap32 ((a0_1) % 4294967296)) / 2 ^ (ji16).toNat) = ji20 := shr_small hji20
    simp only [Option.some.injEq, Prod.mk.injEq] at H
    obtain ⟨rfl, rfl⟩ := H
    go_enter Tryz.func98, Tryz.ntmps98
    go_wp2_with (first | ((with_reducible refine gate_dst (N := 3) rfl ?_); refine bx_ 3 #[.int .u64 a0_0, .int .u64 a0_1] 24 ?_; intro gb179 hg w21 BK179 hb; have GW179 := bg_ hg; have GE179 := GW179; replace HB := bl_ hb; clear hb hg) | ((with_reducible refine gate_dst (N := 6) rfl ?_); refine bx_ 6 #[.int .u64 0, .int .u64 0] 24 ?_; intro gb180 hg w22 BK180 hb; have GW180 := bg_ hg; have GE180 := GW180; have NB179_180 := bm_ hg BK179; have NB180_179 := bn_ hg BK179; replace BK179 := bb_ hb BK179; replace HB := bl_ hb; clear hb hg; have hnb23 := NB179_180.out; have hnc23 := NB180_179.out; obtain ⟨zc24_0, zc24_1, zf24_0, zf24_1⟩ := k2_ BK179; obtain ⟨zc25_0, zc25_1, zf25_0, zf25_1⟩ := k2_ BK180))
    refine bodyPost_ret (results_cell_row rfl _ _ gb180 24 #[.int .u64 ((ji18) % 4294967296), .int .u64 ((ji20) % 4294967296)] (0, 0) _ rfl (by (with_reducible repeat (first | apply bN_ | apply bD_ | apply bA_)); refine blk_put (cs := #[.int .u64 ((ji18) % 4294967296), .int .u64 0]) ?_ 1 _ rfl; (with_reducible repeat (first | apply bN_ | apply bD_ | apply bA_)); refine blk_put (cs := #[.int .u64 0, .int .u64 0]) ?_ 0 _ rfl; exact bk_) Tryz.underlying24 rfl (by kernel_rfl)) rfl ?_
    exact ⟨by first | rfl | (simp [errW_none, errW_some] <;> rfl) | (simp only [← hji16, ← hji18, ← hji20]; first | rfl | (simp [errW_none, errW_some] <;> rfl)) | (simp [*, errW_none, errW_some] <;> rfl), bz_⟩
   ·rw [if_neg c17] at H
    exact absurd H (by simp)
  ·rw [if_neg c15] at H
   have c15b0 : (a2 == 32) = false := beq_eq_false_iff_ne.mpr c15
   have c15b1 : (a2 != 32) = true := bne_iff_ne.mpr c15
   replace H := Option.bind_eq_some_iff.mp H
   obtain ⟨⟨t181, t182⟩, A260, H⟩ := H
   replace H : (some (t181, t182)) = some (r1, r2) := H
   have A26 := Aside0.mk A260
   clear A260
   simp only [Option.some.injEq, Prod.mk.injEq] at H
   obtain ⟨rfl, rfl⟩ := H
   go_enter Tryz.func98, Tryz.ntmps98
   go_wp2_with (first | ((with_reducible refine gate_dst (N := 3) rfl ?_); refine bx_ 3 #[.int .u64 a0_0, .int .u64 a0_1] 24 ?_; intro gb179 hg w27 BK179 hb; have GW179 := bg_ hg; have GE179 := GW179; replace HB := bl_ hb; clear hb hg) | ((with_reducible refine gate_dst (N := 6) rfl ?_); refine bx_ 6 #[.int .u64 0, .int .u64 0] 24 ?_; intro gb180 hg w28 BK180 hb; have GW180 := bg_ hg; have GE180 := GW180; have NB179_180 := bm_ hg BK179; have NB180_179 := bn_ hg BK179; replace BK179 := bb_ hb BK179; replace HB := bl_ hb; clear hb hg) | ((with_reducible refine gate_callee (f := 64) rfl ?_); refine gM_ 50 Tryz.func64 (tnum_Any.calls  t181 t182 _ A26.out) ?_; intro w29 hb; replace BK179 := bb_ hb BK179; replace BK180 := bb_ hb BK180; replace HB := bl_ hb; (try clear hb); (try clear hb2); (try clear hk); (try clear hi); have hnb30 := NB180_179.out; have hnc30 := NB179_180.out; obtain ⟨zc31_0, zc31_1, zf31_0, zf31_1⟩ := k2_ BK180))
   refine bodyPost_ret (results_cell_row rfl _ _ gb180 24 #[.int .u64 t181, .int .u64 t182] (0, 0) _ rfl (by (with_reducible repeat (first | apply bN_ | apply bD_ | apply bA_)); refine blk_put (cs := #[.int .u64 t181, .int .u64 0]) ?_ 1 _ rfl; (with_reducible repeat (first | apply bN_ | apply bD_ | apply bA_)); refine blk_put (cs := #[.int .u64 0, .int .u64 0]) ?_ 0 _ rfl; exact bk_) Tryz.underlying24 rfl (by kernel_rfl)) rfl ?_
   exact ⟨vv_, bz_⟩

/-! ### tnum_clear: function 161 -/
def tnum_clear.f (a0 : Int) (a1 : Int) : Option (Int × Int) := some (Go.bits .andNot .u64 a0 a1, a1)
set_option maxHeartbeats 8000000 in
set_option maxRecDepth 100000 in
theorem tnum_clear.calls (a0 : Int) (a1 : Int) (r1 : Int) (r2 : Int) (w : World) (h : tnum_clear.f a0 a1 = some (r1, r2)) :
 Calls Tryz.prog 161 #[.int .u64 a0, .int .u64 a1] w fun e w' => e = .returned (.agg #[.int .u64 r1, .int .u64 r2]) ∧ Below w.heap.size w w' := by
 have hu24 := Tryz.underlying24
 have HB := Aside0.mk (Below.refl w.heap.size w)
 have H : (some (Go.bits .andNot .u64 a0 a1, a1)) = some (r1, r2) := h
 clear h
 simp only [Option.some.injEq, Prod.mk.injEq] at H
 obtain ⟨rfl, rfl⟩ := H
 go_enter Tryz.func161, Tryz.ntmps161
 go_wp2_with (first | ((with_reducible refine gate_dst (N := 4) rfl ?_); refine bx_ 4 #[.int .u64 0, .int .u64 0] 24 ?_; intro gb210 hg w3 BK210 hb; have GW210 := bg_ hg; have GE210 := GW210; replace HB := bl_ hb; clear hb hg; obtain ⟨zc4_0, zc4_1, zf4_0, zf4_1⟩ := k2_ BK210))
 refine bodyPost_ret (results_cell_row rfl _ _ gb210 24 #[.int .u64 (Go.bits .andNot .u64 a0 a1), .int .u64 a1] (0, 0) _ rfl (by (with_reducible repeat (first | apply bN_ | apply bD_ | apply bA_)); refine blk_put (cs := #[.int .u64 (Go.bits .andNot .u64 a0 a1), .int .u64 0]) ?_ 1 _ rfl; (with_reducible repeat (first | apply bN_ | apply bD_ | apply bA_)); refine blk_put (cs := #[.int .u64 0, .int .u64 0]) ?_ 0 _ rfl; exact bk_) Tryz.underlying24 rfl (by kernel_rfl)) rfl ?_
 exact ⟨vv_, bz_⟩

/-! ### tnum_Add: function 100 -/
def tnum_Add.f (a0_0 : Int) (a0_1 : Int) (a1_0 : Int) (a1_1 : Int) : Option (Int × Int) := (tnum_clear.f (IntKind.u64.wrap (a0_0 + a1_0)) (Go.bits .or .u64 (Go.bits .or .u64 (Go.bits .xor .u64 (IntKind.u64.wrap ((IntKind.u64.wrap ((IntKind.u64.wrap (a0_0 + a1_0)) + a0_1)) + a1_1)) (IntKind.u64.wrap (a0_0 + a1_0))) a0_1) a1_1)).bind fun bt214 => (some (bt214.1, bt214.2))
set_option maxHeartbeats 8000000 in
set_option maxRecDepth 100000 in
theorem tnum_Add.calls (a0_0 : Int) (a0_1 : Int) (a1_0 : Int) (a1_1 : Int) (r1 : Int) (r2 : Int) (w : World) (h : tnum_Add.f a0_0 a0_1 a1_0 a1_1 = some (r1, r2)) :
 Calls Tryz.prog 100 #[.agg #[.int .u64 a0_0, .int .u64 a0_1], .agg #[.int .u64 a1_0, .int .u64 a1_1]] w fun e w' => e = .returned (.agg #[.int .u64 r1, .int .u64 r2]) ∧ Below w.heap.size w w' := by
 have hu24 := Tryz.underlying24
 have HB := Aside0.mk (Below.refl w.heap.size w)
 have H : ((tnum_clear.f (IntKind.u64.wrap (a0_0 + a1_0)) (Go.bits .or .u64 (Go.bits .or .u64 (Go.bits .xor .u64 (IntKind.u64.wrap ((IntKind.u64.wrap ((IntKind.u64.wrap (a0_0 + a1_0)) + a0_1)) + a1_1)) (IntKind.u64.wrap (a0_0 + a1_0))) a0_1) a1_1)).bind fun bt214 => (some (bt214.1, bt214.2))) = some (r1, r2) := h
 clear h
 replace H := Option.bind_eq_some_iff.mp H
 obtain ⟨⟨t214, t215⟩, A30, H⟩ := H
 replace H : (some (t214, t215)) = some (r1, r2) := H
 have A3 := Aside0.mk A30
 clear A30
 simp only [Option.some.injEq, Prod.mk.injEq] at H
 obtain ⟨rfl, rfl⟩ := H
 go_enter Tryz.func100, Tryz.ntmps100
 go_wp2_with (first | ((with_reducible refine gate_dst (N := 2) rfl ?_); refine bx_ 2 #[.int .u64 a0_0, .int .u64 a0_1] 24 ?_; intro gb211 hg w4 BK211 hb; have GW211 := bg_ hg; have GE211 := GW211; replace HB := bl_ hb; clear hb hg) | ((with_reducible refine gate_dst (N := 3) rfl ?_); refine bx_ 3 #[.int .u64 a1_0, .int .u64 a1_1] 24 ?_; intro gb212 hg w5 BK212 hb; have GW212 := bg_ hg; have GE212 := GW212; have NB211_212 := bm_ hg BK211; have NB212_211 := bn_ hg BK211; replace BK211 := bb_ hb BK211; replace HB := bl_ hb; clear hb hg) | ((with_reducible refine gate_dst (N := 4) rfl ?_); refine bx_ 4 #[.int .u64 0, .int .u64 0] 24 ?_; intro gb213 hg w6 BK213 hb; have GW213 := bg_ hg; have GE213 := GW213; have NB211_213 := bm_ hg BK211; have NB213_211 := bn_ hg BK211; have NB212_213 := bm_ hg BK212; have NB213_212 := bn_ hg BK212; replace BK211 := bb_ hb BK211; replace BK212 := bb_ hb BK212; replace HB := bl_ hb; clear hb hg; have hnb7 := NB211_212.out; have hnc7 := NB212_211.out; have hnb8 := NB211_213.out; have hnc8 := NB213_211.out; obtain ⟨zc9_0, zc9_1, zf9_0, zf9_1⟩ := k2_ BK211; have hnb10 := NB212_213.out; have hnc10 := NB213_212.out; obtain ⟨zc11_0, zc11_1, zf11_0, zf11_1⟩ := k2_ BK212) | ((with_reducible refine gate_callee (f := 161) rfl ?_); refine goesL_ (some 29) rfl rfl Tryz.func161 (by kernel_rfl) rfl #[.int .u64 (IntKind.u64.wrap (a0_0 + a1_0)), .int .u64 (Go.bits .or .u64 (Go.bits .or .u64 (Go.bits .xor .u64 (IntKind.u64.wrap ((IntKind.u64.wrap ((IntKind.u64.wrap (a0_0 + a1_0)) + a0_1)) + a1_1)) (IntKind.u64.wrap (a0_0 + a1_0))) a0_1) a1_1)] rfl mp_ ?_; (with_reducible refine (tnum_clear.calls (IntKind.u64.wrap (a0_0 + a1_0)) (Go.bits .or .u64 (Go.bits .or .u64 (Go.bits .xor .u64 (IntKind.u64.wrap ((IntKind.u64.wrap ((IntKind.u64.wrap (a0_0 + a1_0)) + a0_1)) + a1_1)) (IntKind.u64.wrap (a0_0 + a1_0))) a0_1) a1_1) t214 t215 _ A3.out).mono ?_); rintro e w12 ⟨rfl, hb⟩; refine ⟨_, rfl, ?_⟩; replace BK211 := bb_ hb BK211; replace BK212 := bb_ hb BK212; replace BK213 := bb_ hb BK213; replace HB := bl_ hb; (try clear hb); (try clear hb2); (try clear hk); (try clear hi); obtain ⟨zc13_0, zc13_1, zf13_0, zf13_1⟩ := k2_ BK213))
 refine bodyPost_ret (results_cell_row rfl _ _ gb213 24 #[.int .u64 t214, .int .u64 t215] (0, 0) _ rfl (by (with_reducible repeat (first | apply bN_ | apply bD_ | apply bA_)); refine blk_put (cs := #[.int .u64 t214, .int .u64 0]) ?_ 1 _ rfl; (with_reducible repeat (first | apply bN_ | apply bD_ | apply bA_)); refine blk_put (cs := #[.int .u64 0, .int .u64 0]) ?_ 0 _ rfl; exact bk_) Tryz.underlying24 rfl (by kernel_rfl)) rfl ?_
 exact ⟨vv_, bz_⟩

/-! ### tnum_Sub: function 103 -/
def tnum_Sub.f (a0_0 : Int) (a0_1 : Int) (a1_0 : Int) (a1_1 : Int) : Option (Int × Int) := (tnum_clear.f (IntKind.u64.wrap (a0_0 - a1_0)) (Go.bits .or .u64 (Go.bits .or .u64 (Go.bits .xor .u64 (IntKind.u64.wrap ((IntKind.u64.wrap (a0_0 - a1_0)) + a0_1)) (IntKind.u64.wrap ((IntKind.u64.wrap (a0_0 - a1_0)) - a1_1))) a0_1) a1_1)).bind fun bt238 => (some (bt238.1, bt238.2))
set_option maxHeartbeats 8000000 in
set_option maxRecDepth 100000 in
theorem tnum_Sub.calls (a0_0 : Int) (a0_1 : Int) (a1_0 : Int) (a1_1 : Int) (r1 : Int) (r2 : Int) (w : World) (h : tnum_Sub.f a0_0 a0_1 a1_0 a1_1 = some (r1, r2)) :
 Calls Tryz.prog 103 #[.agg #[.int .u64 a0_0, .int .u64 a0_1], .agg #[.int .u64 a1_0, .int .u64 a1_1]] w fun e w' => e = .returned (.agg #[.int .u64 r1, .int .u64 r2]) ∧ Below w.heap.size w w' := by
 have hu24 := Tryz.underlying24
 have HB := Aside0.mk (Below.refl w.heap.size w)
 have H : ((tnum_clear.f (IntKind.u64.wrap (a0_0 - a1_0)) (Go.bits .or .u64 (Go.bits .or .u64 (Go.bits .xor .u64 (IntKind.u64.wrap ((IntKind.u64.wrap (a0_0 - a1_0)) + a0_1)) (IntKind.u64.wrap ((IntKind.u64.wrap (a0_0 - a1_0)) - a1_1))) a0_1) a1_1)).bind fun bt238 => (some (bt238.1, bt238.2))) = some (r1, r2) := h
 clear h
 replace H := Option.bind_eq_some_iff.mp H
 obtain ⟨⟨t238, t239⟩, A30, H⟩ := H
 replace H : (some (t238, t239)) = some (r1, r2) := H
 have A3 := Aside0.mk A30
 clear A30
 simp only [Option.some.injEq, Prod.mk.injEq] at H
 obtain ⟨rfl, rfl⟩ := H
 go_enter Tryz.func103, Tryz.ntmps103
 go_wp2_with (first | ((with_reducible refine gate_dst (N := 2) rfl ?_); refine bx_ 2 #[.int .u64 a0_0, .int .u64 a0_1] 24 ?_; intro gb235 hg w4 BK235 hb; have GW235 := bg_ hg; have GE235 := GW235; replace HB := bl_ hb; clear hb hg) | ((with_reducible refine gate_dst (N := 3) rfl ?_); refine bx_ 3 #[.int .u64 a1_0, .int .u64 a1_1] 24 ?_; intro gb236 hg w5 BK236 hb; have GW236 := bg_ hg; have GE236 := GW236; have NB235_236 := bm_ hg BK235; have NB236_235 := bn_ hg BK235; replace BK235 := bb_ hb BK235; replace HB := bl_ hb; clear hb hg) | ((with_reducible refine gate_dst (N := 4) rfl ?_); refine bx_ 4 #[.int .u64 0, .int .u64 0] 24 ?_; intro gb237 hg w6 BK237 hb; have GW237 := bg_ hg; have GE237 := GW237; have NB235_237 := bm_ hg BK235; have NB237_235 := bn_ hg BK235; have NB236_237 := bm_ hg BK236; have NB237_236 := bn_ hg BK236; replace BK235 := bb_ hb BK235; replace BK236 := bb_ hb BK236; replace HB := bl_ hb; clear hb hg; have hnb7 := NB235_236.out; have hnc7 := NB236_235.out; have hnb8 := NB235_237.out; have hnc8 := NB237_235.out; obtain ⟨zc9_0, zc9_1, zf9_0, zf9_1⟩ := k2_ BK235; have hnb10 := NB236_237.out; have hnc10 := NB237_236.out; obtain ⟨zc11_0, zc11_1, zf11_0, zf11_1⟩ := k2_ BK236) | ((with_reducible refine gate_callee (f := 161) rfl ?_); refine goesL_ (some 29) rfl rfl Tryz.func161 (by kernel_rfl) rfl #[.int .u64 (IntKind.u64.wrap (a0_0 - a1_0)), .int .u64 (Go.bits .or .u64 (Go.bits .or .u64 (Go.bits .xor .u64 (IntKind.u64.wrap ((IntKind.u64.wrap (a0_0 - a1_0)) + a0_1)) (IntKind.u64.wrap ((IntKind.u64.wrap (a0_0 - a1_0)) - a1_1))) a0_1) a1_1)] rfl mp_ ?_; (with_reducible refine (tnum_clear.calls (IntKind.u64.wrap (a0_0 - a1_0)) (Go.bits .or .u64 (Go.bits .or .u64 (Go.bits .xor .u64 (IntKind.u64.wrap ((IntKind.u64.wrap (a0_0 - a1_0)) + a0_1)) (IntKind.u64.wrap ((IntKind.u64.wrap (a0_0 - a1_0)) - a1_1))) a0_1) a1_1) t238 t239 _ A3.out).mono ?_); rintro e w12 ⟨rfl, hb⟩; refine ⟨_, rfl, ?_⟩; replace BK235 := bb_ hb BK235; replace BK236 := bb_ hb BK236; replace BK237 := bb_ hb BK237; replace HB := bl_ hb; (try clear hb); (try clear hb2); (try clear hk); (try clear hi); obtain ⟨zc13_0, zc13_1, zf13_0, zf13_1⟩ := k2_ BK237))
 refine bodyPost_ret (results_cell_row rfl _ _ gb237 24 #[.int .u64 t238, .int .u64 t239] (0, 0) _ rfl (by (with_reducible repeat (first | apply bN_ | apply bD_ | apply bA_)); refine blk_put (cs := #[.int .u64 t238, .int .u64 0]) ?_ 1 _ rfl; (with_reducible repeat (first | apply bN_ | apply bD_ | apply bA_)); refine blk_put (cs := #[.int .u64 0, .int .u64 0]) ?_ 0 _ rfl; exact bk_) Tryz.underlying24 rfl (by kernel_rfl)) rfl ?_
 exact ⟨vv_, bz_⟩

/-! ### tnum_Or: function 110 -/
def tnum_Or.f (a0_0 : Int) (a0_1 : Int) (a1_0 : Int) (a1_1 : Int) : Option (Int × Int) := some (Go.bits .or .u64 a0_0 a1_0, Go.bits .andNot .u64 (Go.bits .or .u64 a0_1 a1_1) (Go.bits .or .u64 a0_0 a1_0))
set_option maxHeartbeats 8000000 in
set_option maxRecDepth 100000 in
theorem tnum_Or.calls (a0_0 : Int) (a0_1 : Int) (a1_0 : Int) (a1_1 : Int) (r1 : Int) (r2 : Int) (w : World) (h : tnum_Or.f a0_0 a0_1 a1_0 a1_1 = some (r1, r2)) :
 Calls Tryz.prog 110 #[.agg #[.int .u64 a0_0, .int .u64 a0_1], .agg #[.int .u64 a1_0, .int .u64 a1_1]] w fun e w' => e = .returned (.agg #[.int .u64 r1, .int .u64 r2]) ∧ Below w.heap.size w w' := by
 have hu24 := Tryz.underlying24
 have HB := Aside0.mk (Below.refl w.heap.size w)
 have H : (some (Go.bits .or .u64 a0_0 a1_0, Go.bits .andNot .u64 (Go.bits .or .u64 a0_1 a1_1) (Go.bits .or .u64 a0_0 a1_0))) = some (r1, r2) := h
 clear h
 simp only [Option.some.injEq, Prod.mk.injEq] at H
 obtain ⟨rfl, rfl⟩ := H
 go_enter Tryz.func110, Tryz.ntmps110
 go_wp2_with (first | ((with_reducible refine gate_dst (N := 2) rfl ?_); refine bx_ 2 #[.int .u64 a0_0, .int .u64 a0_1] 24 ?_; intro gb300 hg w3 BK300 hb; have GW300 := bg_ hg; have GE300 := GW300; replace HB := bl_ hb; clear hb hg) | ((with_reducible refine gate_dst (N := 3) rfl ?_); refine bx_ 3 #[.int .u64 a1_0, .int .u64 a1_1] 24 ?_; intro gb301 hg w4 BK301 hb; have GW301 := bg_ hg; have GE301 := GW301; have NB300_301 := bm_ hg BK300; have NB301_300 := bn_ hg BK300; replace BK300 := bb_ hb BK300; replace HB := bl_ hb; clear hb hg) | ((with_reducible refine gate_dst (N := 4) rfl ?_); refine bx_ 4 #[.int .u64 0, .int .u64 0] 24 ?_; intro gb302 hg w5 BK302 hb; have GW302 := bg_ hg; have GE302 := GW302; have NB300_302 := bm_ hg BK300; have NB302_300 := bn_ hg BK300; have NB301_302 := bm_ hg BK301; have NB302_301 := bn_ hg BK301; replace BK300 := bb_ hb BK300; replace BK301 := bb_ hb BK301; replace HB := bl_ hb; clear hb hg; have hnb6 := NB300_301.out; have hnc6 := NB301_300.out; have hnb7 := NB300_302.out; have hnc7 := NB302_300.out; obtain ⟨zc8_0, zc8_1, zf8_0, zf8_1⟩ := k2_ BK300; have hnb9 := NB301_302.out; have hnc9 := NB302_301.out; obtain ⟨zc10_0, zc10_1, zf10_0, zf10_1⟩ := k2_ BK301; obtain ⟨zc11_0, zc11_1, zf11_0, zf11_1⟩ := k2_ BK302))
 refine bodyPost_ret (results_cell_row rfl _ _ gb302 24 #[.int .u64 (Go.bits .or .u64 a0_0 a1_0), .int .u64 (Go.bits .andNot .u64 (Go.bits .or .u64 a0_1 a1_1) (Go.bits .or .u64 a0_0 a1_0))] (0, 0) _ rfl (by (with_reducible repeat (first | apply bN_ | apply bD_ | apply bA_)); refine blk_put (cs := #[.int .u64 (Go.bits .or .u64 a0_0 a1_0), .int .u64 0]) ?_ 1 _ rfl; (with_reducible repeat (first | apply bN_ | apply bD_ | apply bA_)); refine blk_put (cs := #[.int .u64 0, .int .u64 0]) ?_ 0 _ rfl; exact bk_) Tryz.underlying24 rfl (by kernel_rfl)) rfl ?_
 exact ⟨vv_, bz_⟩

/-! ### tnum_And: function 112 -/
def tnum_And.f (a0_0 : Int) (a0_1 : Int) (a1_0 : Int) (a1_1 : Int) : Option (Int × Int) := some (Go.bits .and .u64 a0_0 a1_0, Go.bits .andNot .u64 (Go.bits .and .u64 (Go.bits .or .u64 a0_0 a0_1) (Go.bits .or .u64 a1_0 a1_1)) (Go.bits .and .u64 a0_0 a1_0))
set_option maxHeartbeats 8000000 in
set_option maxRecDepth 100000 in
theorem tnum_And.calls (a0_0 : Int) (a0_1 : Int) (a1_0 : Int) (a1_1 : Int) (r1 : Int) (r2 : Int) (w : World) (h : tnum_And.f a0_0 a0_1 a1_0 a1_1 = some (r1, r2)) :
 Calls Tryz.prog 112 #[.agg #[.int .u64 a0_0, .int .u64 a0_1], .agg #[.int .u64 a1_0, .int .u64 a1_1]] w fun e w' => e = .returned (.agg #[.int .u64 r1, .int .u64 r2]) ∧ Below w.heap.size w w' := by
 have hu24 := Tryz.underlying24
 have HB := Aside0.mk (Below.refl w.heap.size w)
 have H : (some (Go.bits .and .u64 a0_0 a1_0, Go.bits .andNot .u64 (Go.bits .and .u64 (Go.bits .or .u64 a0_0 a0_1) (Go.bits .or .u64 a1_0 a1_1)) (Go.bits .and .u64 a0_0 a1_0))) = some (r1, r2) := h
 clear h
 simp only [Option.some.injEq, Prod.mk.injEq] at H
 obtain ⟨rfl, rfl⟩ := H
 go_enter Tryz.func112, Tryz.ntmps112
 go_wp2_with (first | ((with_reducible refine gate_dst (N := 2) rfl ?_); refine bx_ 2 #[.int .u64 a0_0, .int .u64 a0_1] 24 ?_; intro gb312 hg w3 BK312 hb; have GW312 := bg_ hg; have GE312 := GW312; replace HB := bl_ hb; clear hb hg) | ((with_reducible refine gate_dst (N := 3) rfl ?_); refine bx_ 3 #[.int .u64 a1_0, .int .u64 a1_1] 24 ?_; intro gb313 hg w4 BK313 hb; have GW313 := bg_ hg; have GE313 := GW313; have NB312_313 := bm_ hg BK312; have NB313_312 := bn_ hg BK312; replace BK312 := bb_ hb BK312; replace HB := bl_ hb; clear hb hg) | ((with_reducible refine gate_dst (N := 4) rfl ?_); refine bx_ 4 #[.int .u64 0, .int .u64 0] 24 ?_; intro gb314 hg w5 BK314 hb; have GW314 := bg_ hg; have GE314 := GW314; have NB312_314 := bm_ hg BK312; have NB314_312 := bn_ hg BK312; have NB313_314 := bm_ hg BK313; have NB314_313 := bn_ hg BK313; replace BK312 := bb_ hb BK312; replace BK313 := bb_ hb BK313; replace HB := bl_ hb; clear hb hg; have hnb6 := NB312_313.out; have hnc6 := NB313_312.out; have hnb7 := NB312_314.out; have hnc7 := NB314_312.out; obtain ⟨zc8_0, zc8_1, zf8_0, zf8_1⟩ := k2_ BK312; have hnb9 := NB313_314.out; have hnc9 := NB314_313.out; obtain ⟨zc10_0, zc10_1, zf10_0, zf10_1⟩ := k2_ BK313; obtain ⟨zc11_0, zc11_1, zf11_0, zf11_1⟩ := k2_ BK314))
 refine bodyPost_ret (results_cell_row rfl _ _ gb314 24 #[.int .u64 (Go.bits .and .u64 a0_0 a1_0), .int .u64 (Go.bits .andNot .u64 (Go.bits .and .u64 (Go.bits .or .u64 a0_0 a0_1) (Go.bits .or .u64 a1_0 a1_1)) (Go.bits .and .u64 a0_0 a1_0))] (0, 0) _ rfl (by (with_reducible repeat (first | apply bN_ | apply bD_ | apply bA_)); refine blk_put (cs := #[.int .u64 (Go.bits .and .u64 a0_0 a1_0), .int .u64 0]) ?_ 1 _ rfl; (with_reducible repeat (first | apply bN_ | apply bD_ | apply bA_)); refine blk_put (cs := #[.int .u64 0, .int .u64 0]) ?_ 0 _ rfl; exact bk_) Tryz.underlying24 rfl (by kernel_rfl)) rfl ?_
 exact ⟨vv_, bz_⟩

/-! ### tnum_Xor: function 114 -/
def tnum_Xor.f (a0_0 : Int) (a0_1 : Int) (a1_0 : Int) (a1_1 : Int) : Option (Int × Int) := (tnum_clear.f (Go.bits .xor .u64 a0_0 a1_0) (Go.bits .or .u64 a0_1 a1_1)).bind fun bt325 => (some (bt325.1, bt325.2))
set_option maxHeartbeats 8000000 in
set_option maxRecDepth 100000 in
theorem tnum_Xor.calls (a0_0 : Int) (a0_1 : Int) (a1_0 : Int) (a1_1 : Int) (r1 : Int) (r2 : Int) (w : World) (h : tnum_Xor.f a0_0 a0_1 a1_0 a1_1 = some (r1, r2)) :
 Calls Tryz.prog 114 #[.agg #[.int .u64 a0_0, .int .u64 a0_1], .agg #[.int .u64 a1_0, .int .u64 a1_1]] w fun e w' => e = .returned (.agg #[.int .u64 r1, .int .u64 r2]) ∧ Below w.heap.size w w' := by
 have hu24 := Tryz.underlying24
 have HB := Aside0.mk (Below.refl w.heap.size w)
 have H : ((tnum_clear.f (Go.bits .xor .u64 a0_0 a1_0) (Go.bits .or .u64 a0_1 a1_1)).bind fun bt325 => (some (bt325.1, bt325.2))) = some (r1, r2) := h
 clear h
 replace H := Option.bind_eq_some_iff.mp H
 obtain ⟨⟨t325, t326⟩, A30, H⟩ := H
 replace H : (some (t325, t326)) = some (r1, r2) := H
 have A3 := Aside0.mk A30
 clear A30
 simp only [Option.some.injEq, Prod.mk.injEq] at H
 obtain ⟨rfl, rfl⟩ := H
 go_enter Tryz.func114, Tryz.ntmps114
 go_wp2_with (first | ((with_reducible refine gate_dst (N := 2) rfl ?_); refine bx_ 2 #[.int .u64 a0_0, .int .u64 a0_1] 24 ?_; intro gb322 hg w4 BK322 hb; have GW322 := bg_ hg; have GE322 := GW322; replace HB := bl_ hb; clear hb hg) | ((with_reducible refine gate_dst (N := 3) rfl ?_); refine bx_ 3 #[.int .u64 a1_0, .int .u64 a1_1] 24 ?_; intro gb323 hg w5 BK323 hb; have GW323 := bg_ hg; have GE323 := GW323; have NB322_323 := bm_ hg BK322; have NB323_322 := bn_ hg BK322; replace BK322 := bb_ hb BK322; replace HB := bl_ hb; clear hb hg) | ((with_reducible refine gate_dst (N := 4) rfl ?_); refine bx_ 4 #[.int .u64 0, .int .u64 0] 24 ?_; intro gb324 hg w6 BK324 hb; have GW324 := bg_ hg; have GE324 := GW324; have NB322_324 := bm_ hg BK322; have NB324_322 := bn_ hg BK322; have NB323_324 := bm_ hg BK323; have NB324_323 := bn_ hg BK323; replace BK322 := bb_ hb BK322; replace BK323 := bb_ hb BK323; replace HB := bl_ hb; clear hb hg; have hnb7 := NB322_323.out; have hnc7 := NB323_322.out; have hnb8 := NB322_324.out; have hnc8 := NB324_322.out; obtain ⟨zc9_0, zc9_1, zf9_0, zf9_1⟩ := k2_ BK322; have hnb10 := NB323_324.out; have hnc10 := NB324_323.out; obtain ⟨zc11_0, zc11_1, zf11_0, zf11_1⟩ := k2_ BK323) | ((with_reducible refine gate_callee (f := 161) rfl ?_); refine gM_ 15 Tryz.func161 (tnum_clear.calls (Go.bits .xor .u64 a0_0 a1_0) (Go.bits .or .u64 a0_1 a1_1) t325 t326 _ A3.out) ?_; intro w12 hb; replace BK322 := bb_ hb BK322; replace BK323 := bb_ hb BK323; replace BK324 := bb_ hb BK324; replace HB := bl_ hb; (try clear hb); (try clear hb2); (try clear hk); (try clear hi); obtain ⟨zc13_0, zc13_1, zf13_0, zf13_1⟩ := k2_ BK324))
 refine bodyPost_ret (results_cell_row rfl _ _ gb324 24 #[.int .u64 t325, .int .u64 t326] (0, 0) _ rfl (by (with_reducible repeat (first | apply bN_ | apply bD_ | apply bA_)); refine blk_put (cs := #[.int .u64 t325, .int .u64 0]) ?_ 1 _ rfl; (with_reducible repeat (first | apply bN_ | apply bD_ | apply bA_)); refine blk_put (cs := #[.int .u64 0, .int .u64 0]) ?_ 0 _ rfl; exact bk_) Tryz.underlying24 rfl (by kernel_rfl)) rfl ?_
 exact ⟨vv_, bz_⟩

/-! ### lockgateref03_Of: function 61 -/
def lockgateref03_Of.f (a0 : Int) : Option (Int × Int) := some (a0, 0)
set_option maxHeartbeats 8000000 in
set_option maxRecDepth 100000 in
theorem lockgateref03_Of.calls (a0 : Int) (r1 : Int) (r2 : Int) (w : World) (h : lockgateref03_Of.f a0 = some (r1, r2)) :
 Calls Tryz.prog 61 #[.int .u64 a0] w fun e w' => e = .returned (.agg #[.int .u64 r1, .int .u64 r2]) ∧ Below w.heap.size w w' := by
 have hu24 := Tryz.underlying24
 have HB := Aside0.mk (Below.refl w.heap.size w)
 have H : (some (a0, 0)) = some (r1, r2) := h
 clear h
 simp only [Option.some.injEq, Prod.mk.injEq] at H
 obtain ⟨rfl, rfl⟩ := H
 go_enter Tryz.func61, Tryz.ntmps61
 go_wp2_with (first | ((with_reducible refine gate_dst (N := 2) rfl ?_); refine bx_ 2 #[.int .u64 0, .int .u64 0] 24 ?_; intro gb339 hg w2 BK339 hb; have GW339 := bg_ hg; have GE339 := GW339; replace HB := bl_ hb; clear hb hg; obtain ⟨zc3_0, zc3_1, zf3_0, zf3_1⟩ := k2_ BK339))
 refine bodyPost_ret (results_cell_row rfl _ _ gb339 24 #[.int .u64 a0, .int .u64 0] (0, 0) _ rfl (by (with_reducible repeat (first | apply bN_ | apply bD_ | apply bA_)); refine blk_put (cs := #[.int .u64 a0, .int .u64 0]) ?_ 1 _ rfl; (with_reducible repeat (first | apply bN_ | apply bD_ | apply bA_)); refine blk_put (cs := #[.int .u64 0, .int .u64 0]) ?_ 0 _ rfl; exact bk_) Tryz.underlying24 rfl (by kernel_rfl)) rfl ?_
 exact ⟨vv_, bz_⟩

/-! ### lockgateref03_Any: function 67 -/
def lockgateref03_Any.f  : Option (Int × Int) := some (0, 18446744073709551615)
set_option maxHeartbeats 8000000 in
set_option maxRecDepth 100000 in
theorem lockgateref03_Any.calls  (r1 : Int) (r2 : Int) (w : World) (h : lockgateref03_Any.f  = some (r1, r2)) :
 Calls Tryz.prog 67 #[] w fun e w' => e = .returned (.agg #[.int .u64 r1, .int .u64 r2]) ∧ Below w.heap.size w w' := by
 have hu24 := Tryz.underlying24
 have HB := Aside0.mk (Below.refl w.heap.size w)
 have H : (some (0, 18446744073709551615)) = some (r1, r2) := h
 clear h
 simp only [Option.some.injEq, Prod.mk.injEq] at H
 obtain ⟨rfl, rfl⟩ := H
 go_enter Tryz.func67, Tryz.ntmps67
 go_wp2_with (first | ((with_reducible refine gate_dst (N := 0) rfl ?_); refine bx_ 0 #[.int .u64 0, .int .u64 0] 24 ?_; intro gb349 hg w1 BK349 hb; have GW349 := bg_ hg; have GE349 := GW349; replace HB := bl_ hb; clear hb hg; obtain ⟨zc2_0, zc2_1, zf2_0, zf2_1⟩ := k2_ BK349))
 refine bodyPost_ret (results_cell_row rfl _ _ gb349 24 #[.int .u64 0, .int .u64 18446744073709551615] (0, 0) _ rfl (by (with_reducible repeat (first | apply bN_ | apply bD_ | apply bA_)); refine blk_put (cs := #[.int .u64 0, .int .u64 0]) ?_ 1 _ rfl; (with_reducible repeat (first | apply bN_ | apply bD_ | apply bA_)); refine blk_put (cs := #[.int .u64 0, .int .u64 0]) ?_ 0 _ rfl; exact bk_) Tryz.underlying24 rfl (by kernel_rfl)) rfl ?_
 exact ⟨vv_, bz_⟩

/-! ### lockgateref03_Cut: function 123 -/
/-! ### lockgateref03_count: function 179 -/
def lockgateref03_count.f (a0 : Int) (a1 : Int) : Option (Int) := if a1 = 0 then (none) else (if (Int.tmod a0 a1) < 0 then (some (IntKind.u64.wrap (wrap64 ((Int.tmod a0 a1) + a1)))) else (some (IntKind.u64.wrap (Int.tmod a0 a1))))
set_option maxHeartbeats 8000000 in
set_option maxRecDepth 100000 in
theorem lockgateref03_count.calls (a0 : Int) (a1 : Int) (r : Int) (w : World) (h : lockgateref03_count.f a0 a1 = some r) :
 Calls Tryz.prog 179 #[.int .i64 a0, .int .i64 a1] w fun e w' => e = .returned (.int .u64 r) ∧ Drawn0 w w' := by
 have H : (if a1 = 0 then (none) else (if (Int.tmod a0 a1) < 0 then (some (IntKind.u64.wrap (wrap64 ((Int.tmod a0 a1) + a1)))) else (some (IntKind.u64.wrap (Int.tmod a0 a1))))) = some r := h
 clear h
 by_cases c3 : a1 = 0
 ·rw [if_pos c3] at H
  exact absurd H (by simp)
 ·rw [if_neg c3] at H
  have c3b0 : (a1 == 0) = false := beq_eq_false_iff_ne.mpr c3
  have c3b1 : (a1 != 0) = true := bne_iff_ne.mpr c3
  by_cases c4 : (Int.tmod a0 a1) < 0
  ·rw [if_pos c4] at H
   have c4b0 : decide ((Int.tmod a0 a1) < 0) = true := decide_eq_true c4
   clear c4
   obtain rfl := Option.some.inj H
   go_enter Tryz.func179, Tryz.ntmps179
   go_wp2
   go_ret
   exact ⟨by first | rfl | (simp; done) | (simp [*]; done), by repeat (first | exact Drawn0.refl _ | apply Drawn0.step)⟩
  ·rw [if_neg c4] at H
   have c4b0 : decide ((Int.tmod a0 a1) < 0) = false := decide_eq_false c4
   clear c4
   obtain rfl := Option.some.inj H
   go_enter Tryz.func179, Tryz.ntmps179
   go_wp2
   go_ret
   exact ⟨by first | rfl | (simp; done) | (simp [*]; done), by repeat (first | exact Drawn0.refl _ | apply Drawn0.step)⟩

/-! ### lockgateref03_Lsh: function 125 -/
def lockgateref03_Lsh.f (a0_0 : Int) (a0_1 : Int) (a1 : Int) : Option (Int × Int) := (lockgateref03_count.f a1 64).bind fun t549 => (if 0 ≤ t549 then ((lockgateref03_count.f a1 64).bind fun t550 => (if 0 ≤ t550 then (some (shl .u64 a0_0 t549, shl .u64 a0_1 t550)) else (none))) else (none))
def lockgateref03_Lsh.T1 : Bool × List (List Nat × List Nat) := (true, [([], []), ([0], [0]), ([], []), ([2], [2]), ([1, 3], [1, 3]), ([], []), ([5], [5]), ([], []), ([7, 3], [7]), ([6, 8], [6, 8]), ([4, 9], [4, 9]), ([10, 8, 0, 1, 2, 3, 4, 5, 6, 7, 8, 9, 10], [10])])
def lockgateref03_Lsh.B1 : List Nat := [0, 1, 0, 4, 15, 0, 32, 0, 140, 492, 1023, 2047]
theorem lockgateref03_Lsh.tab1 : rtab .any (opsOf Tryz.f125 1) = lockgateref03_Lsh.T1 := by kernel_rfl
theorem lockgateref03_Lsh.bits1 : waitsOk lockgateref03_Lsh.T1.2 lockgateref03_Lsh.B1 = true := by kernel_rfl
set_option maxHeartbeats 8000000 in
set_option maxRecDepth 100000 in
theorem lockgateref03_Lsh.calls (a0_0 : Int) (a0_1 : Int) (a1 : Int) (r1 : Int) (r2 : Int) (w : World) (h : lockgateref03_Lsh.f a0_0 a0_1 a1 = some (r1, r2)) :
 Calls Tryz.prog 125 #[.agg #[.int .u64 a0_0, .int .u64 a0_1], .int .i64 a1] w fun e w' => e = .returned (.agg #[.int .u64 r1, .int .u64 r2]) ∧ Below w.heap.size w w' := by
 have hu24 := Tryz.underlying24
 have HB := Aside0.mk (Below.refl w.heap.size w)
 have H : ((lockgateref03_count.f a1 64).bind fun t549 => (if 0 ≤ t549 then ((lockgateref03_count.f a1 64).bind fun t550 => (if 0 ≤ t550 then (some (shl .u64 a0_0 t549, shl .u64 a0_1 t550)) else (none))) else (none))) = some (r1, r2) := h
 clear h
 replace H := Option.bind_eq_some_iff.mp H
 obtain ⟨t549, A30, H⟩ := H
 replace H : (if 0 ≤ t549 then ((lockgateref03_count.f a1 64).bind fun t550 => (if 0 ≤ t550 then (some (shl .u64 a0_0 t549, shl .u64 a0_1 t550)) else (none))) else (none)) = some (r1, r2) := H
 have A3 := Aside0.mk A30
 clear A30
 by_cases c4 : 0 ≤ t549
 ·rw [if_pos c4] at H
  have c4b0 := eq_true c4
  have c4b1 : decide (0 ≤ t549) = true := decide_eq_true c4
  clear c4
  obtain ⟨ji5, hji5⟩ : ∃ j_ : Int, (shl .u64 a0_0 t549) = j_ := ⟨_, rfl⟩
  replace H : ((lockgateref03_count.f a1 64).bind fun t550 => (if 0 ≤ t550 then (some (ji5, shl .u64 a0_1 t550)) else (none))) = some (r1, r2) := by first | (rw [hji5] at H; exact H) | (simp only [hji5] at H ⊢; exact H)
  (try rw [hji5] at A3)
  have hji5_ : (IntKind.u64.wrap (a0_0 * 2 ^ min t549.toNat 64)) = ji5 := hji5
  have hji5z : t549 ≤ 64 → (IntKind.u64.wrap (a0_0 * 2 ^ t549.toNat)) = ji5 := shl_small hji5
  replace H := Option.bind_eq_some_iff.mp H
  obtain ⟨t550, A60, H⟩ := H
  replace H : (if 0 ≤ t550 then (some (ji5, shl .u64 a0_1 t550)) else (none)) = some (r1, r2) := H
  have A6 := Aside0.mk A60
  clear A60
  have hdd_ : t549 = t550 := (Option.some.inj (A3.out.symm.trans A6.out))
  subst hdd_
  by_cases c7 : 0 ≤ t549
  ·rw [if_pos c7] at H
   have c7b0 := eq_true c7
   have c7b1 : decide (0 ≤ t549) = true := decide_eq_true c7
   clear c7
   obtain ⟨ji8, hji8⟩ : ∃ j_ : Int, (shl .u64 a0_1 t549) = j_ := ⟨_, rfl⟩
   replace H : (some (ji5, ji8)) = some (r1, r2) := by first | (rw [hji8] at H; exact H) | (simp only [hji8] at H ⊢; exact H)
   (try rw [hji8] at A3)
   (try rw [hji8] at A6)
   have hji8_ : (IntKind.u64.wrap (a0_1 * 2 ^ min t549.toNat 64)) = ji8 := hji8
   have hji8z : t549 ≤ 64 → (IntKind.u64.wrap (a0_1 * 2 ^ t549.toNat)) = ji8 := shl_small hji8
   simp only [Option.some.injEq, Prod.mk.injEq] at H
   obtain ⟨rfl, rfl⟩ := H
   go_enter Tryz.func125, Tryz.ntmps125
   try go_wp2_with (first | ((with_reducible refine gate_dst (N := 2) rfl ?_); refine bx_ 2 #[.int .u64 a0_0, .int .u64 a0_1] 24 ?_; intro gb547 hg w9 BK547 hb; have GW547 := bg_ hg; have GE547 := GW547; replace HB := bl_ hb; clear hb hg) | ((with_reducible refine gate_dst (N := 4) rfl ?_); refine bx_ 4 #[.int .u64 0, .int .u64 0] 24 ?_; intro gb548 hg w10 BK548 hb; have GW548 := bg_ hg; have GE548 := GW548; have NB547_548 := bm_ hg BK547; have NB548_547 := bn_ hg BK547; replace BK547 := bb_ hb BK547; replace HB := bl_ hb; clear hb hg))
   replace BK547 := Aside0.mk (blk_drew BK547.out)
   replace BK548 := Aside0.mk (blk_drew BK548.out)
   replace HB := Aside0.mk (below_drew1 HB.out)
   refine start_ (n := 12) (S := fun w' => w'.cell? ⟨gb547, 0, none⟩ = some (.int .u64 a0_0) ∧ w'.cell? ⟨gb547, 1, none⟩ = some (.int .u64 a0_1)) (ds := []) #[n_,n_,n_,n_,n_,n_,n_,n_,n_,n_,n_,n_] (by kernel_rfl) rfl rfl ⟨c0_ BK547, c1_ BK547⟩ (fun hHeld => ?_); refine with_tabW lockgateref03_Lsh.tab1 lockgateref03_Lsh.bits1 (fun HT_ HW_ => ?_)
   generalize w10.drew = w11 at BK547 BK548 HB hHeld ⊢
   refine pq_ 0 5 #[y_,n_,n_,n_,n_,n_,n_,n_,n_,n_,n_,n_] ?_
   refine pq_ 2 7 #[y_,n_,y_,n_,n_,n_,n_,n_,n_,n_,n_,n_] ?_
   refine pq_ 5 10 #[y_,n_,y_,n_,n_,y_,n_,n_,n_,n_,n_,n_] ?_
   refine pq_ 7 12 #[y_,n_,y_,n_,n_,y_,n_,y_,n_,n_,n_,n_] ?_
   refine tq2_ 1 6 #[y_,y_,y_,n_,n_,y_,n_,y_,n_,n_,n_,n_] hHeld ?_
   refine tq2_ 6 11 #[y_,y_,y_,n_,n_,y_,y_,y_,n_,n_,n_,n_] hHeld ?_
   refine one_ (i := 3) (N := some 8) #[y_,y_,y_,y_,n_,y_,y_,y_,n_,n_,n_,n_] rfl rfl (one_of HT_.out (by kernel_rfl)) (by decide) (fun K hK => ?_)
   refine goes_ Tryz.func179 (by kernel_rfl) rfl #[.int .i64 a1, .int .i64 64] (by rfl) rfl rfl mp_ ?_
   with_reducible refine (lockgateref03_count.calls a1 64 t549 _ A3.out).mono ?_
   rintro e w' ⟨rfl, ⟨nd, rfl⟩⟩
   refine ⟨_, rfl, ?_⟩
   refine hK.out _ _ ⟨c0_ BK547, c1_ BK547⟩ (fun hHeld => ?_)
   clear hK K
   refine norm_ (a' := ?_) ?_ ?_
   rotate_left
   ·show Act.put _ (some 8) _ = _
    simp only [Act.put, s1_, s2_, s3_, i64_w, i32_w]
    rfl
   refine pq_ 4 9 #[y_,y_,y_,y_,y_,y_,y_,y_,n_,n_,n_,n_] ?_
   refine one_ (i := 8) (N := some 13) #[y_,y_,y_,y_,y_,y_,y_,y_,y_,n_,n_,n_] rfl rfl (one_of HT_.out (by kernel_rfl)) (by decide) (fun K hK => ?_)
   refine goes_ Tryz.func179 (by kernel_rfl) rfl #[.int .i64 a1, .int .i64 64] (by rfl) rfl rfl mp_ ?_
   with_reducible refine (lockgateref03_count.calls a1 64 t549 _ A6.out).mono ?_
   rintro e w' ⟨rfl, ⟨nd, rfl⟩⟩
   refine ⟨_, rfl, ?_⟩
   refine hK.out _ _ ⟨c0_ BK547, c1_ BK547⟩ (fun hHeld => ?_)
   clear hK K
   refine norm_ (a' := ?_) ?_ ?_
   rotate_left
   ·show Act.put _ (some 13) _ = _
    simp only [Act.put, s1_, s2_, s3_, i64_w, i32_w]
    rfl
   refine pq_ 9 14 #[y_,y_,y_,y_,y_,y_,y_,y_,y_,y_,n_,n_] ?_
   refine pq_ 10 15 #[y_,y_,y_,y_,y_,y_,y_,y_,y_,y_,y_,n_] ?_
   refine one_ (i := 11) (N := none) #[y_,y_,y_,y_,y_,y_,y_,y_,y_,y_,y_,y_] rfl rfl (one_of HT_.out (by kernel_rfl)) (by decide) (fun K hK => ?_)
   obtain ⟨hs12, hfs12⟩ := k1_ BK548
   have hns12_0 := NB547_548.out
   have hms12_0 := NB548_547.out
   have hs13 := c1_ BK548
   have hfs13 := fz_ BK548 1
   have hns13_0 := NB547_548.out
   have hms13_0 := NB548_547.out
   refine skip_ (w1 := ?_) (by rfl) rfl ?_ ?_
   rotate_left
   ·go_simp
    rfl
   refine hK.out _ _ ⟨((cell_far (p := ⟨gb548, _, none⟩) NB547_548.out _).trans (((cell_far (p := ⟨gb548, _, none⟩) NB547_548.out _).trans (hHeld.1)))), ((cell_far (p := ⟨gb548, _, none⟩) NB547_548.out _).trans (((cell_far (p := ⟨gb548, _, none⟩) NB547_548.out _).trans (hHeld.2))))⟩ (fun hHeld => ?_)
   clear hK K
   refine done_ (done_of HT_.out (by kernel_rfl)) ?_
   try go_wp2
   refine bodyPost_ret (results_cell_row rfl _ _ gb548 24 #[.int .u64 ji5, .int .u64 ji8] (0, 0) _ rfl (by (with_reducible repeat (first | apply bN_ | apply bD_ | apply bA_)); refine blk_put (cs := #[.int .u64 ji5, .int .u64 0]) ?_ 1 _ rfl; (with_reducible repeat (first | apply bN_ | apply bD_ | apply bA_)); refine blk_put (cs := #[.int .u64 0, .int .u64 0]) ?_ 0 _ rfl; exact bk_) Tryz.underlying24 rfl (by kernel_rfl)) rfl ?_
   exact ⟨by first | rfl | (simp [errW_none, errW_some] <;> rfl) | (simp only [← hji5, ← hji8]; first | rfl | (simp [errW_none, errW_some] <;> rfl)) | (simp [*, errW_none, errW_some] <;> rfl), bz_⟩
  ·rw [if_neg c7] at H
   exact absurd H (by simp)
 ·rw [if_neg c4] at H
  exact absurd H (by simp)

/-! ### lockgateref03_Rsh: function 127 -/
def lockgateref03_Rsh.f (a0_0 : Int) (a0_1 : Int) (a1 : Int) : Option (Int × Int) := (lockgateref03_count.f a1 64).bind fun t559 => (if 0 ≤ t559 then ((lockgateref03_count.f a1 64).bind fun t560 => (if 0 ≤ t560 then (some (shr .u64 a0_0 t559, shr .u64 a0_1 t560)) else (none))) else (none))
def lockgateref03_Rsh.T1 : Bool × List (List Nat × List Nat) := (true, [([], []), ([0], [0]), ([], []), ([2], [2]), ([1, 3], [1, 3]), ([], []), ([5], [5]), ([], []), ([7, 3], [7]), ([6, 8], [6, 8]), ([4, 9], [4, 9]), ([10, 8, 0, 1, 2, 3, 4, 5, 6, 7, 8, 9, 10], [10])])
def lockgateref03_Rsh.B1 : List Nat := [0, 1, 0, 4, 15, 0, 32, 0, 140, 492, 1023, 2047]
theorem lockgateref03_Rsh.tab1 : rtab .any (opsOf Tryz.f127 1) = lockgateref03_Rsh.T1 := by kernel_rfl
theorem lockgateref03_Rsh.bits1 : waitsOk lockgateref03_Rsh.T1.2 lockgateref03_Rsh.B1 = true := by kernel_rfl
set_option maxHeartbeats 8000000 in
set_option maxRecDepth 100000 in
theorem lockgateref03_Rsh.calls (a0_0 : Int) (a0_1 : Int) (a1 : Int) (r1 : Int) (r2 : Int) (w : World) (h : lockgateref03_Rsh.f a0_0 a0_1 a1 = some (r1, r2)) :
 Calls Tryz.prog 127 #[.agg #[.int .u64 a0_0, .int .u64 a0_1], .int .i64 a1] w fun e w' => e = .returned (.agg #[.int .u64 r1, .int .u64 r2]) ∧ Below w.heap.size w w' := by
 have hu24 := Tryz.underlying24
 have HB := Aside0.mk (Below.refl w.heap.size w)
 have H : ((lockgateref03_count.f a1 64).bind fun t559 => (if 0 ≤ t559 then ((lockgateref03_count.f a1 64).bind fun t560 => (if 0 ≤ t560 then (some (shr .u64 a0_0 t559, shr .u64 a0_1 t560)) else (none))) else (none))) = some (r1, r2) := h
 clear h
 replace H := Option.bind_eq_some_iff.mp H
 obtain ⟨t559, A30, H⟩ := H
 replace H : (if 0 ≤ t559 then ((lockgateref03_count.f a1 64).bind fun t560 => (if 0 ≤ t560 then (some (shr .u64 a0_0 t559, shr .u64 a0_1 t560)) else (none))) else (none)) = some (r1, r2) := H
 have A3 := Aside0.mk A30
 clear A30
 by_cases c4 : 0 ≤ t559
 ·rw [if_pos c4] at H
  have c4b0 := eq_true c4
  have c4b1 : decide (0 ≤ t559) = true := decide_eq_true c4
  clear c4
  obtain ⟨ji5, hji5⟩ : ∃ j_ : Int, (shr .u64 a0_0 t559) = j_ := ⟨_, rfl⟩
  replace H : ((lockgateref03_count.f a1 64).bind fun t560 => (if 0 ≤ t560 then (some (ji5, shr .u64 a0_1 t560)) else (none))) = some (r1, r2) := by first | (rw [hji5] at H; exact H) | (simp only [hji5] at H ⊢; exact H)
  (try rw [hji5] at A3)
  have hji5_ : (a0_0 / 2 ^ min t559.toNat 64) = ji5 := hji5
  have hji5z : t559 ≤ 64 → (a0_0 / 2 ^ t559.toNat) = ji5 := shr_small hji5
  replace H := Option.bind_eq_some_iff.mp H
  obtain ⟨t560, A60, H⟩ := H
  replace H : (if 0 ≤ t560 then (some (ji5, shr .u64 a0_1 t560)) else (none)) = some (r1, r2) := H
  have A6 := Aside0.mk A60
  clear A60
  have hdd_ : t559 = t560 := (Option.some.inj (A3.out.symm.trans A6.out))
  subst hdd_
  by_cases c7 : 0 ≤ t559
  ·rw [if_pos c7] at H
   have c7b0 := eq_true c7
   have c7b1 : decide (0 ≤ t559) = true := decide_eq_true c7
   clear c7
   obtain ⟨ji8, hji8⟩ : ∃ j_ : Int, (shr .u64 a0_1 t559) = j_ := ⟨_, rfl⟩
   replace H : (some (ji5, ji8)) = some (r1, r2) := by first | (rw [hji8] at H; exact H) | (simp only [hji8] at H ⊢; exact H)
   (try rw [hji8] at A3)
   (try rw [hji8] at A6)
   have hji8_ : (a0_1 / 2 ^ min t559.toNat 64) = ji8 := hji8
   have hji8z : t559 ≤ 64 → (a0_1 / 2 ^ t559.toNat) = ji8 := shr_small hji8
   simp only [Option.some.injEq, Prod.mk.injEq] at H
   obtain ⟨rfl, rfl⟩ := H
   go_enter Tryz.func127, Tryz.ntmps127
   try go_wp2_with (first | ((with_reducible refine gate_dst (N := 2) rfl ?_); refine bx_ 2 #[.int .u64 a0_0, .int .u64 a0_1] 24 ?_; intro gb557 hg w9 BK557 hb; have GW557 := bg_ hg; have GE557 := GW557; replace HB := bl_ hb; clear hb hg) | ((with_reducible refine gate_dst (N := 4) rfl ?_); refine bx_ 4 #[.int .u64 0, .int .u64 0] 24 ?_; intro gb558 hg w10 BK558 hb; have GW558 := bg_ hg; have GE558 := GW558; have NB557_558 := bm_ hg BK557; have NB558_557 := bn_ hg BK557; replace BK557 := bb_ hb BK557; replace HB := bl_ hb; clear hb hg))
   replace BK557 := Aside0.mk (blk_drew BK557.out)
   replace BK558 := Aside0.mk (blk_drew BK558.out)
   replace HB := Aside0.mk (below_drew1 HB.out)
   refine start_ (n := 12) (S := fun w' => w'.cell? ⟨gb557, 0, none⟩ = some (.int .u64 a0_0) ∧ w'.cell? ⟨gb557, 1, none⟩ = some (.int .u64 a0_1)) (ds := []) #[n_,n_,n_,n_,n_,n_,n_,n_,n_,n_,n_,n_] (by kernel_rfl) rfl rfl ⟨c0_ BK557, c1_ BK557⟩ (fun hHeld => ?_); refine with_tabW lockgateref03_Rsh.tab1 lockgateref03_Rsh.bits1 (fun HT_ HW_ => ?_)
   generalize w10.drew = w11 at BK557 BK558 HB hHeld ⊢
   refine pq_ 0 5 #[y_,n_,n_,n_,n_,n_,n_,n_,n_,n_,n_,n_] ?_
   refine pq_ 2 7 #[y_,n_,y_,n_,n_,n_,n_,n_,n_,n_,n_,n_] ?_
   refine pq_ 5 10 #[y_,n_,y_,n_,n_,y_,n_,n_,n_,n_,n_,n_] ?_
   refine pq_ 7 12 #[y_,n_,y_,n_,n_,y_,n_,y_,n_,n_,n_,n_] ?_
   refine tq2_ 1 6 #[y_,y_,y_,n_,n_,y_,n_,y_,n_,n_,n_,n_] hHeld ?_
   refine tq2_ 6 11 #[y_,y_,y_,n_,n_,y_,y_,y_,n_,n_,n_,n_] hHeld ?_
   refine one_ (i := 3) (N := some 8) #[y_,y_,y_,y_,n_,y_,y_,y_,n_,n_,n_,n_] rfl rfl (one_of HT_.out (by kernel_rfl)) (by decide) (fun K hK => ?_)
   refine goes_ Tryz.func179 (by kernel_rfl) rfl #[.int .i64 a1, .int .i64 64] (by rfl) rfl rfl mp_ ?_
   with_reducible refine (lockgateref03_count.calls a1 64 t559 _ A3.out).mono ?_
   rintro e w' ⟨rfl, ⟨nd, rfl⟩⟩
   refine ⟨_, rfl, ?_⟩
   refine hK.out _ _ ⟨c0_ BK557, c1_ BK557⟩ (fun hHeld => ?_)
   clear hK K
   refine norm_ (a' := ?_) ?_ ?_
   rotate_left
   ·show Act.put _ (some 8) _ = _
    simp only [Act.put, s1_, s2_, s3_, i64_w, i32_w]
    rfl
   refine pq_ 4 9 #[y_,y_,y_,y_,y_,y_,y_,y_,n_,n_,n_,n_] ?_
   refine one_ (i := 8) (N := some 13) #[y_,y_,y_,y_,y_,y_,y_,y_,y_,n_,n_,n_] rfl rfl (one_of HT_.out (by kernel_rfl)) (by decide) (fun K hK => ?_)
   refine goes_ Tryz.func179 (by kernel_rfl) rfl #[.int .i64 a1, .int .i64 64] (by rfl) rfl rfl mp_ ?_
   with_reducible refine (lockgateref03_count.calls a1 64 t559 _ A6.out).mono ?_
   rintro e w' ⟨rfl, ⟨nd, rfl⟩⟩
   refine ⟨_, rfl, ?_⟩
   refine hK.out _ _ ⟨c0_ BK557, c1_ BK557⟩ (fun hHeld => ?_)
   clear hK K
   refine norm_ (a' := ?_) ?_ ?_
   rotate_left
   ·show Act.put _ (some 13) _ = _
    simp only [Act.put, s1_, s2_, s3_, i64_w, i32_w]
    rfl
   refine pq_ 9 14 #[y_,y_,y_,y_,y_,y_,y_,y_,y_,y_,n_,n_] ?_
   refine pq_ 10 15 #[y_,y_,y_,y_,y_,y_,y_,y_,y_,y_,y_,n_] ?_
   refine one_ (i := 11) (N := none) #[y_,y_,y_,y_,y_,y_,y_,y_,y_,y_,y_,y_] rfl rfl (one_of HT_.out (by kernel_rfl)) (by decide) (fun K hK => ?_)
   obtain ⟨hs12, hfs12⟩ := k1_ BK558
   have hns12_0 := NB557_558.out
   have hms12_0 := NB558_557.out
   have hs13 := c1_ BK558
   have hfs13 := fz_ BK558 1
   have hns13_0 := NB557_558.out
   have hms13_0 := NB558_557.out
   refine skip_ (w1 := ?_) (by rfl) rfl ?_ ?_
   rotate_left
   ·go_simp
    rfl
   refine hK.out _ _ ⟨((cell_far (p := ⟨gb558, _, none⟩) NB557_558.out _).trans (((cell_far (p := ⟨gb558, _, none⟩) NB557_558.out _).trans (hHeld.1)))), ((cell_far (p := ⟨gb558, _, none⟩) NB557_558.out _).trans (((cell_far (p := ⟨gb558, _, none⟩) NB557_558.out _).trans (hHeld.2))))⟩ (fun hHeld => ?_)
   clear hK K
   refine done_ (done_of HT_.out (by kernel_rfl)) ?_
   try go_wp2
   refine bodyPost_ret (results_cell_row rfl _ _ gb558 24 #[.int .u64 ji5, .int .u64 ji8] (0, 0) _ rfl (by (with_reducible repeat (first | apply bN_ | apply bD_ | apply bA_)); refine blk_put (cs := #[.int .u64 ji5, .int .u64 0]) ?_ 1 _ rfl; (with_reducible repeat (first | apply bN_ | apply bD_ | apply bA_)); refine blk_put (cs := #[.int .u64 0, .int .u64 0]) ?_ 0 _ rfl; exact bk_) Tryz.underlying24 rfl (by kernel_rfl)) rfl ?_
   exact ⟨by first | rfl | (simp [errW_none, errW_some] <;> rfl) | (simp only [← hji5, ← hji8]; first | rfl | (simp [errW_none, errW_some] <;> rfl)) | (simp [*, errW_none, errW_some] <;> rfl), bz_⟩
  ·rw [if_neg c7] at H
   exact absurd H (by simp)
 ·rw [if_neg c4] at H
  exact absurd H (by simp)

/-! ### lockgateref03_down: function 181 -/
def lockgateref03_down.l0 : Nat → Int → Int → Int → Int → Int → Option (Int)
 | 0, _, _, _, _, _ => none
 | k + 1, x0, x1, x2, x7, x8 => if x8 < x2 then (if 0 ≤ (mn (IntKind.u64.wrap (x8 + x1)) (IntKind.u64.wrap (x2 - 1))) then (if 0 ≤ x8 then (lockgateref03_down.l0 k x0 x1 x2 (Go.bits .or .u64 x7 (shl .u64 (Int.tmod (shr .u64 x0 (mn (IntKind.u64.wrap (x8 + x1)) (IntKind.u64.wrap (x2 - 1)))) 2) x8)) (IntKind.u64.wrap (x8 + 1))) else (none)) else (none)) else (some x7)
def lockgateref03_down.f (k : Nat) (a0 : Int) (a1 : Int) (a2 : Int) : Option (Int) := lockgateref03_down.l0 k a0 a1 a2 0 0
theorem lockgateref03_down.mono_l : ∀ k, (∀ y0 y1 y2 y3 y4, LeO (lockgateref03_down.l0 k y0 y1 y2 y3 y4) (lockgateref03_down.l0 (k + 1) y0 y1 y2 y3 y4))
 | 0 => fun _ _ _ _ _ r h => by simp [lockgateref03_down.l0] at h
 | k + 1 => by
  have ih0 := lockgateref03_down.mono_l k
  ·intro y0 y1 y2 y3 y4
   unfold lockgateref03_down.l0
   repeat' first
   | (with_reducible exact ih0 _ _ _ _ _)
   | (with_reducible exact LeO.refl _)
   | (with_reducible exact LeO.none _)
   | (with_reducible refine LeO.ite ?_ ?_)
   | (with_reducible refine LeO.bind ?_ (fun _ => ?_))
   | exact ih0 _ _ _ _ _
   | exact LeO.none _
   | refine LeO.ite ?_ ?_
   | refine LeO.bind ?_ (fun _ => ?_)
theorem lockgateref03_down.mono : ∀ a0 a1 a2 k, LeO (lockgateref03_down.f k a0 a1 a2) (lockgateref03_down.f (k + 1) a0 a1 a2) := by
 intro a0 a1 a2 k
 have ih0 := lockgateref03_down.mono_l k
 unfold lockgateref03_down.f
 repeat' first
  | (with_reducible exact ih0 _ _ _ _ _)
  | (with_reducible exact LeO.refl _)
  | (with_reducible exact LeO.none _)
  | (with_reducible refine LeO.ite ?_ ?_)
  | (with_reducible refine LeO.bind ?_ (fun _ => ?_))
  | exact ih0 _ _ _ _ _
  | exact LeO.none _
  | refine LeO.ite ?_ ?_
  | refine LeO.bind ?_ (fun _ => ?_)
set_option maxHeartbeats 8000000 in
set_option maxRecDepth 100000 in
theorem lockgateref03_down.calls (k : Nat) (a0 : Int) (a1 : Int) (a2 : Int) (r : Int) (w : World) (h : lockgateref03_down.f k a0 a1 a2 = some r) :
 Calls Tryz.prog 181 #[.int .u64 a0, .int .u64 a1, .int .u64 a2] w fun e w' => e = .returned (.int .u64 r) ∧ Below w.heap.size w w' := by
 have HB := Aside0.mk (Below.refl w.heap.size w)
 have H : (lockgateref03_down.l0 k a0 a1 a2 0 0) = some r := h
 clear h
 have H' := Aside0.mk H
 clear H
 go_enter Tryz.func181, Tryz.ntmps181
 go_wp2
 go_loopg [7, 8] k (fun kq v7 v8 w' => ∃ (x7_1 : Int) (x8_1 : Int), v7 = .int .u64 x7_1 ∧ v8 = .int .u64 x8_1 ∧ Aside0 (lockgateref03_down.l0 kq a0 a1 a2 x7_1 x8_1 = some r) ∧ Aside0 (kq ≤ k) ∧ Aside0 (Below w.heap.size w w'))
 case atStart => exact ⟨(0), (0), (by first | rfl | (simp; done) | (simp [*]; done)), (by first | rfl | (simp; done) | (simp [*]; done)), H', ⟨Nat.le_refl _⟩, ⟨bz_⟩⟩
 case round =>
  clear H'
  try clear c1
  try clear p2
  obtain ⟨x7_1, x8_1, rfl, rfl, HA, HK1, HB⟩ := hrel
  cases gk with
  | zero => exact absurd HA.out (by simp [lockgateref03_down.l0])
  | succ k1 =>
   have H := HA.out
   clear HA
   simp only [lockgateref03_down.l0] at H
   by_cases c4 : x8_1 < a2
   ·rw [if_pos c4] at H
    have c4b0 : decide (x8_1 < a2) = true := decide_eq_true c4
    clear c4
    obtain ⟨ji5, hji5⟩ : ∃ j_ : Int, (mn (IntKind.u64.wrap (x8_1 + a1)) (IntKind.u64.wrap (a2 - 1))) = j_ := ⟨_, rfl⟩
    replace H : (if 0 ≤ (ji5) then (if 0 ≤ x8_1 then (lockgateref03_down.l0 k1 a0 a1 a2 (Go.bits .or .u64 x7_1 (shl .u64 (Int.tmod (shr .u64 a0 (ji5)) 2) x8_1)) (IntKind.u64.wrap (x8_1 + 1))) else (none)) else (none)) = some r := by first | (rw [hji5] at H; exact H) | (simp only [hji5] at H ⊢; exact H)
    have hji5_ : (if (IntKind.u64.wrap (a2 - 1)) < (IntKind.u64.wrap (x8_1 + a1)) then (IntKind.u64.wrap (a2 - 1)) else (IntKind.u64.wrap (x8_1 + a1))) = ji5 := hji5
    by_cases c6 : 0 ≤ (ji5)
    ·rw [if_pos c6] at H
     have c6b0 := eq_true c6
     have c6b1 : decide (0 ≤ (ji5)) = true := decide_eq_true c6
     clear c6
     obtain ⟨ji7, hji7⟩ : ∃ j_ : Int, (shr .u64 a0 (ji5)) = j_ := ⟨_, rfl⟩
     replace H : (if 0 ≤ x8_1 then (lockgateref03_down.l0 k1 a0 a1 a2 (Go.bits .or .u64 x7_1 (shl .u64 (Int.tmod (ji7) 2) x8_1)) (IntKind.u64.wrap (x8_1 + 1))) else (none)) = some r := by first | (rw [hji7] at H; exact H) | (simp only [hji7] at H ⊢; exact H)
     have hji7_ : (a0 / 2 ^ min (ji5).toNat 64) = ji7 := hji7
     have hji7z : (ji5) ≤ 64 → (a0 / 2 ^ (ji5).toNat) = ji7 := shr_small hji7
     by_cases c8 : 0 ≤ x8_1
     ·rw [if_pos c8] at H
      have c8b0 := eq_true c8
      have c8b1 : decide (0 ≤ x8_1) = true := decide_eq_true c8
      clear c8
      obtain ⟨ji9, hji9⟩ : ∃ j_ : Int, (shl .u64 (Int.tmod (ji7) 2) x8_1) = j_ := ⟨_, rfl⟩
      replace H : (lockgateref03_down.l0 k1 a0 a1 a2 (Go.bits .or .u64 x7_1 (ji9)) (IntKind.u64.wrap (x8_1 + 1))) = some r := by first | (rw [hji9] at H; exact H) | (simp only [hji9] at H ⊢; exact H)
      have hji9_ : (IntKind.u64.wrap ((Int.tmod (ji7) 2) * 2 ^ min x8_1.toNat 64)) = ji9 := hji9
      have hji9z : x8_1 ≤ 64 → (IntKind.u64.wrap ((Int.tmod (ji7) 2) * 2 ^ x8_1.toNat)) = ji9 := shl_small hji9
      have H' := Aside0.mk H
      clear H
      go_wp2
      go_roundg k1
      case measure => have := HK1.out; omega
      case rel => exact ⟨(Go.bits .or .u64 x7_1 (ji9)), (IntKind.u64.wrap (x8_1 + 1)), (by first | rfl | (simp; done) | (simp only [← hji9] <;> (first | rfl | simp)) | (simp [*]; done)), (by first | rfl | (simp; done) | (simp [*]; done)), H', ⟨by have := HK1.out; omega⟩, ⟨bz_⟩⟩
     ·rw [if_neg c8] at H
      exact absurd H (by simp)
    ·rw [if_neg c6] at H
     exact absurd H (by simp)
   ·rw [if_neg c4] at H
    have c4b0 : decide (x8_1 < a2) = false := decide_eq_false c4
    clear c4
    obtain rfl := Option.some.inj H
    go_wp2
    go_ret
    exact ⟨vv_, bz_⟩

/-! ### lockgateref03_Arsh: function 129 -/
def lockgateref03_Arsh.j0 : Nat → Int → Int → Bool → Int → Int → Option (Int × Int)
 | 0, _, _, _, _, _ => none
 | k + 1, x1, x2, x13, x565000, x565001 => if x13 = true then ((lockgateref03_Any.f).bind fun bt566 => (some (bt566.1, bt566.2))) else ((lockgateref03_count.f x1 x2).bind fun t568 => ((lockgateref03_down.f k x565000 t568 (IntKind.u64.wrap (x2))).bind fun t569 => ((lockgateref03_down.f k x565001 t568 (IntKind.u64.wrap (x2))).bind fun t570 => (some (t569, t570)))))
def lockgateref03_Arsh.f (k : Nat) (a0_0 : Int) (a0_1 : Int) (a1 : Int) (a2 : Int) : Option (Int × Int) := if a2 = 32 then (lockgateref03_Arsh.j0 k a1 a2 false a0_0 a0_1) else (lockgateref03_Arsh.j0 k a1 a2 (a2 != 64) a0_0 a0_1)
theorem lockgateref03_Arsh.mono_l : ∀ k, (∀ y0 y1 y2 y3 y4, LeO (lockgateref03_Arsh.j0 k y0 y1 y2 y3 y4) (lockgateref03_Arsh.j0 (k + 1) y0 y1 y2 y3 y4))
 | 0 => fun _ _ _ _ _ r h => by simp [lockgateref03_Arsh.j0] at h
 | k + 1 => by
  have ih0 := lockgateref03_Arsh.mono_l k
  ·intro y0 y1 y2 y3 y4
   unfold lockgateref03_Arsh.j0
   repeat' first
   | (with_reducible exact ih0 _ _ _ _ _)
   | (with_reducible exact lockgateref03_down.mono _ _ _ _)
   | (with_reducible exact LeO.refl _)
   | (with_reducible exact LeO.none _)
   | (with_reducible refine LeO.ite ?_ ?_)
   | (with_reducible refine LeO.bind ?_ (fun _ => ?_))
   | exact ih0 _ _ _ _ _
   | exact lockgateref03_down.mono _ _ _ _
   | exact LeO.none _
   | refine LeO.ite ?_ ?_
   | refine LeO.bind ?_ (fun _ => ?_)
theorem lockgateref03_Arsh.mono : ∀ a0 a1 a2 a3 k, LeO (lockgateref03_Arsh.f k a0 a1 a2 a3) (lockgateref03_Arsh.f (k + 1) a0 a1 a2 a3) := by
 intro a0 a1 a2 a3 k
 have ih0 := lockgateref03_Arsh.mono_l k
 unfold lockgateref03_Arsh.f
 repeat' first
  | (with_reducible exact ih0 _ _ _ _ _)
  | (with_reducible exact lockgateref03_down.mono _ _ _ _)
  | (with_reducible exact LeO.refl _)
  | (with_reducible exact LeO.none _)
  | (with_reducible refine LeO.ite ?_ ?_)
  | (with_reducible refine LeO.bind ?_ (fun _ => ?_))
  | exact ih0 _ _ _ _ _
  | exact lockgateref03_down.mono _ _ _ _
  | exact LeO.none _
  | refine LeO.ite ?_ ?_
  | refine LeO.bind ?_ (fun _ => ?_)
def lockgateref03_Arsh.T4 : Bool × List (List Nat × List Nat) := (true, [([], []), ([0], [0]), ([], []), ([], []), ([3], [3]), ([1, 2, 4], [1, 2, 4]), ([], []), ([6], [6]), ([], []), ([], []), ([9], [9]), ([7, 8, 10, 5], [7, 8, 10]), ([5, 11], [5, 11]), ([12, 11, 0, 1, 2, 3, 4, 5, 6, 7, 8, 9, 10, 11, 12], [12])])
def lockgateref03_Arsh.B4 : List Nat := [0, 1, 0, 0, 8, 31, 0, 64, 0, 0, 512, 2047, 4095, 8191]
theorem lockgateref03_Arsh.tab4 : rtab .any (opsOf Tryz.f129 4) = lockgateref03_Arsh.T4 := by kernel_rfl
theorem lockgateref03_Arsh.bits4 : waitsOk lockgateref03_Arsh.T4.2 lockgateref03_Arsh.B4 = true := by kernel_rfl
set_option maxHeartbeats 8000000 in
set_option maxRecDepth 100000 in
theorem lockgateref03_Arsh.calls (k : Nat) (a0_0 : Int) (a0_1 : Int) (a1 : Int) (a2 : Int) (r1 : Int) (r2 : Int) (w : World) (h : lockgateref03_Arsh.f k a0_0 a0_1 a1 a2 = some (r1, r2)) :
 Calls Tryz.prog 129 #[.agg #[.int .u64 a0_0, .int .u64 a0_1], .int .i64 a1, .int .i64 a2] w fun e w' => e = .returned (.agg #[.int .u64 r1, .int .u64 r2]) ∧ Below w.heap.size w w' := by
 have hu24 := Tryz.underlying24
 have HB := Aside0.mk (Below.refl w.heap.size w)
 have H : (if a2 = 32 then (lockgateref03_Arsh.j0 k a1 a2 false a0_0 a0_1) else (lockgateref03_Arsh.j0 k a1 a2 (a2 != 64) a0_0 a0_1)) = some (r1, r2) := h
 clear h
 have HC4 := Aside0.mk H
 clear H
 go_enter Tryz.func129, Tryz.ntmps129
 go_upto_region 1 with (first | ((with_reducible refine gate_dst (N := 3) rfl ?_); refine bx_ 3 #[.int .u64 a0_0, .int .u64 a0_1] 24 ?_; intro gb564 hg w5 BK564 hb; have GW564 := bg_ hg; have GE564 := GW564; replace HB := bl_ hb; clear hb hg) | ((with_reducible refine gate_dst (N := 6) rfl ?_); refine bx_ 6 #[.int .u64 0, .int .u64 0] 24 ?_; intro gb565 hg w6 BK565 hb; have GW565 := bg_ hg; have GE565 := GW565; have NB564_565 := bm_ hg BK564; have NB565_564 := bn_ hg BK564; replace BK564 := bb_ hb BK564; replace HB := bl_ hb; clear hb hg))
 (try simp only [Act.put, s1_, s2_, s3_])
 go_cut [13] (fun v13 wc => ∃ (kq : Nat) (x13_3 : Bool), v13 = .bool x13_3 ∧ Aside0 (lockgateref03_Arsh.j0 kq a1 a2 x13_3 a0_0 a0_1 = some (r1, r2)) ∧ Aside0 (kq ≤ k) ∧ Aside0 (wc.heap[gb564]? = some (.cells #[.int .u64 a0_0, .int .u64 a0_1] 24 (0, 0))) ∧ Aside0 (wc.heap[gb565]? = some (.cells #[.int .u64 0, .int .u64 0] 24 (0, 0))) ∧ Aside0 (Below w.heap.size w wc))
 case first =>
  have H := HC4.out
  clear HC4
  by_cases c7 : a2 = 32
  ·rw [if_pos c7] at H
   have c7b0 : (a2 == 32) = true := beq_iff_eq.mpr c7
   have c7b1 : (a2 != 32) = false := bne_eq_false_iff_eq.mpr c7
   clear c7
   (first | rw [c7b0] | (simp only [i64_w, i32_w]; rw [c7b0]) | skip)
   have H' := Aside0.mk H
   clear H
   go_wp2
   go_meet
   case rel => exact ⟨_, (false), (by first | rfl | (simp; done) | (simp [*]; done)), H', ⟨by first | omega | exact Nat.le_refl _⟩, ⟨bk_⟩, ⟨bk_⟩, ⟨bz_⟩⟩
  ·rw [if_neg c7] at H
   have c7b0 : (a2 == 32) = false := beq_eq_false_iff_ne.mpr c7
   have c7b1 : (a2 != 32) = true := bne_iff_ne.mpr c7
   (first | rw [c7b0] | (simp only [i64_w, i32_w]; rw [c7b0]) | skip)
   have H' := Aside0.mk H
   clear H
   go_wp2
   go_meet
   case rel => exact ⟨_, ((a2 != 64)), (by first | rfl | (simp; done) | (simp [*]; done)), H', ⟨by first | omega | exact Nat.le_refl _⟩, ⟨bk_⟩, ⟨bk_⟩, ⟨bz_⟩⟩
 case rest =>
  clear HC4
  try clear c1
  try clear p2
  try clear c7
  try clear c7b0
  try clear c7b1
  obtain ⟨kq, x13_3, rfl, HA, HJ3, BK564, BK565, HB⟩ := hcut
  cases kq with
  | zero => exact absurd HA.out (by simp [lockgateref03_Arsh.j0])
  | succ kj3 =>
   have H := HA.out
   clear HA
   simp only [lockgateref03_Arsh.j0] at H
   by_cases c8 : x13_3 = true
   ·subst c8
    have H1 : ((lockgateref03_Any.f).bind fun bt566 => (some (bt566.1, bt566.2))) = some (r1, r2) := by rw [if_pos rfl] at H; exact H
    clear H
    have H := H1
    clear H1
    replace H := Option.bind_eq_some_iff.mp H
    obtain ⟨⟨t566, t567⟩, A90, H⟩ := H
    replace H : (some (t566, t567)) = some (r1, r2) := H
    have A9 := Aside0.mk A90
    clear A90
    simp only [Option.some.injEq, Prod.mk.injEq] at H
    obtain ⟨rfl, rfl⟩ := H
    go_wp2_with (first | ((with_reducible refine gate_callee (f := 67) rfl ?_); refine gM_ 14 Tryz.func67 (lockgateref03_Any.calls  t566 t567 _ A9.out) ?_; intro w10 hb; replace BK564 := bb_ hb BK564; replace BK565 := bb_ hb BK565; replace HB := bl_ hb; (try clear hb); (try clear hb2); (try clear hk); (try clear hi); have hnb11 := NB565_564.out; have hnc11 := NB564_565.out; obtain ⟨zc12_0, zc12_1, zf12_0, zf12_1⟩ := k2_ BK565))
    refine bodyPost_ret (results_cell_row rfl _ _ gb565 24 #[.int .u64 t566, .int .u64 t567] (0, 0) _ rfl (by (with_reducible repeat (first | apply bN_ | apply bD_ | apply bA_)); refine blk_put (cs := #[.int .u64 t566, .int .u64 0]) ?_ 1 _ rfl; (with_reducible repeat (first | apply bN_ | apply bD_ | apply bA_)); refine blk_put (cs := #[.int .u64 0, .int .u64 0]) ?_ 0 _ rfl; exact bk_) Tryz.underlying24 rfl (by kernel_rfl)) rfl ?_
    exact ⟨vv_, bz_⟩
   ·replace c8 := Bool.eq_false_iff.mpr c8
    subst c8
    have H1 : ((lockgateref03_count.f a1 a2).bind fun t568 => ((lockgateref03_down.f kj3 a0_0 t568 (IntKind.u64.wrap (a2))).bind fun t569 => ((lockgateref03_down.f kj3 a0_1 t568 (IntKind.u64.wrap (a2))).bind fun t570 => (some (t569, t570))))) = some (r1, r2) := by rw [if_neg (show ¬ (false = true) by decide)] at H; exact H
    clear H
    have H := H1
    clear H1
    replace H := Option.bind_eq_some_iff.mp H
    obtain ⟨t568, A130, H⟩ := H
    replace H : ((lockgateref03_down.f kj3 a0_0 t568 (IntKind.u64.wrap (a2))).bind fun t569 => ((lockgateref03_down.f kj3 a0_1 t568 (IntKind.u64.wrap (a2))).bind fun t570 => (some (t569, t570)))) = some (r1, r2) := H
    have A13 := Aside0.mk A130
    clear A130
    replace H := Option.bind_eq_some_iff.mp H
    obtain ⟨t569, A140, H⟩ := H
    replace H : ((lockgateref03_down.f kj3 a0_1 t568 (IntKind.u64.wrap (a2))).bind fun t570 => (some (t569, t570))) = some (r1, r2) := H
    have A14 := Aside0.mk A140
    clear A140
    replace H := Option.bind_eq_some_iff.mp H
    obtain ⟨t570, A150, H⟩ := H
    replace H : (some (t569, t570)) = some (r1, r2) := H
    have A15 := Aside0.mk A150
    clear A150
    simp only [Option.some.injEq, Prod.mk.injEq] at H
    obtain ⟨rfl, rfl⟩ := H
    try go_wp2_with (first | ((with_reducible refine gate_callee (f := 179) rfl ?_); refine gM_ 17 Tryz.func179 (lockgateref03_count.calls a1 a2 t568 _ A13.out) ?_; rintro w' ⟨nd, rfl⟩; (try (rw [drewN_self wc]; generalize hq_ : World.drewN wc _ = wc; have n0_ : Aside0 (wc.heap[gb564]? = some (.cells #[.int .u64 a0_0, .int .u64 a0_1] 24 (0, 0))) := ⟨by rw [← hq_]; exact bk_⟩; have n1_ : Aside0 (wc.heap[gb565]? = some (.cells #[.int .u64 0, .int .u64 0] 24 (0, 0))) := ⟨by rw [← hq_]; exact bk_⟩; have n2_ : Aside0 (Below w.heap.size w wc) := ⟨by rw [← hq_]; exact bz_⟩; clear BK564 BK565 HB hq_; have BK564 := n0_; have BK565 := n1_; have HB := n2_; clear n0_ n1_ n2_))))
    replace BK564 := Aside0.mk (blk_drew BK564.out)
    replace BK565 := Aside0.mk (blk_drew BK565.out)
    replace HB := Aside0.mk (below_drew1 HB.out)
    refine start_ (n := 14) (S := fun w' => w'.cell? ⟨gb564, 0, none⟩ = some (.int .u64 a0_0) ∧ w'.cell? ⟨gb564, 1, none⟩ = some (.int .u64 a0_1)) (ds := []) #[n_,n_,n_,n_,n_,n_,n_,n_,n_,n_,n_,n_,n_,n_] (by kernel_rfl) rfl rfl ⟨c0_ BK564, c1_ BK564⟩ (fun hHeld => ?_); refine with_tabW lockgateref03_Arsh.tab4 lockgateref03_Arsh.bits4 (fun HT_ HW_ => ?_)
    generalize wc.drew = w16 at BK564 BK565 HB hHeld ⊢
    refine pq_ 0 18 #[y_,n_,n_,n_,n_,n_,n_,n_,n_,n_,n_,n_,n_,n_] ?_
    refine pq_ 2 20 #[y_,n_,y_,n_,n_,n_,n_,n_,n_,n_,n_,n_,n_,n_] ?_
    refine pq_ 3 21 #[y_,n_,y_,y_,n_,n_,n_,n_,n_,n_,n_,n_,n_,n_] ?_
    refine pq_ 4 22 #[y_,n_,y_,y_,y_,n_,n_,n_,n_,n_,n_,n_,n_,n_] ?_
    refine pq_ 6 24 #[y_,n_,y_,y_,y_,n_,y_,n_,n_,n_,n_,n_,n_,n_] ?_
    refine pq_ 8 26 #[y_,n_,y_,y_,y_,n_,y_,n_,y_,n_,n_,n_,n_,n_] ?_
    refine pq_ 9 27 #[y_,n_,y_,y_,y_,n_,y_,n_,y_,y_,n_,n_,n_,n_] ?_
    refine pq_ 10 28 #[y_,n_,y_,y_,y_,n_,y_,n_,y_,y_,y_,n_,n_,n_] ?_
    refine tq2_ 1 19 #[y_,y_,y_,y_,y_,n_,y_,n_,y_,y_,y_,n_,n_,n_] hHeld ?_
    refine tq2_ 7 25 #[y_,y_,y_,y_,y_,n_,y_,y_,y_,y_,y_,n_,n_,n_] hHeld ?_
    refine one_ (i := 5) (N := some 23) #[y_,y_,y_,y_,y_,y_,y_,y_,y_,y_,y_,n_,n_,n_] rfl rfl (one_of HT_.out (by kernel_rfl)) (by decide) (fun K hK => ?_)
    refine goes_ Tryz.func181 (by kernel_rfl) rfl #[.int .u64 a0_0, .int .u64 t568, .int .u64 (IntKind.u64.wrap (a2))] (by rfl) rfl rfl mp_ ?_
    with_reducible refine (lockgateref03_down.calls kj3 a0_0 t568 (IntKind.u64.wrap (a2)) t569 _ A14.out).mono ?_
    rintro e w17 ⟨rfl, hb⟩
    refine ⟨_, rfl, ?_⟩
    replace BK564 := bb_ hb BK564
    replace BK565 := bb_ hb BK565
    replace HB := bl_ hb
    try clear hb
    refine hK.out _ _ ⟨c0_ BK564, c1_ BK564⟩ (fun hHeld => ?_)
    clear hK K
    refine norm_ (a' := ?_) ?_ ?_
    rotate_left
    ·show Act.put _ (some 23) _ = _
     simp only [Act.put, s1_, s2_, s3_, i64_w, i32_w]
     rfl
    refine one_ (i := 11) (N := some 29) #[y_,y_,y_,y_,y_,y_,y_,y_,y_,y_,y_,y_,n_,n_] rfl rfl (one_of HT_.out (by kernel_rfl)) (by decide) (fun K hK => ?_)
    refine goes_ Tryz.func181 (by kernel_rfl) rfl #[.int .u64 a0_1, .int .u64 t568, .int .u64 (IntKind.u64.wrap (a2))] (by rfl) rfl rfl mp_ ?_
    with_reducible refine (lockgateref03_down.calls kj3 a0_1 t568 (IntKind.u64.wrap (a2)) t570 _ A15.out).mono ?_
    rintro e w18 ⟨rfl, hb⟩
    refine ⟨_, rfl, ?_⟩
    replace BK564 := bb_ hb BK564
    replace BK565 := bb_ hb BK565
    replace HB := bl_ hb
    try clear hb
    refine hK.out _ _ ⟨c0_ BK564, c1_ BK564⟩ (fun hHeld => ?_)
    clear hK K
    refine norm_ (a' := ?_) ?_ ?_
    rotate_left
    ·show Act.put _ (some 29) _ = _
     simp only [Act.put, s1_, s2_, s3_, i64_w, i32_w]
     rfl
    refine pq_ 12 30 #[y_,y_,y_,y_,y_,y_,y_,y_,y_,y_,y_,y_,y_,n_] ?_
    refine one_ (i := 13) (N := none) #[y_,y_,y_,y_,y_,y_,y_,y_,y_,y_,y_,y_,y_,y_] rfl rfl (one_of HT_.out (by kernel_rfl)) (by decide) (fun K hK => ?_)
    obtain ⟨hs19, hfs19⟩ := k1_ BK565
    have hns19_0 := NB564_565.out
    have hms19_0 := NB565_564.out
    have hs20 := c1_ BK565
    have hfs20 := fz_ BK565 1
    have hns20_0 := NB564_565.out
    have hms20_0 := NB565_564.out
    refine skip_ (w1 := ?_) (by rfl) rfl ?_ ?_
    rotate_left
    ·go_simp
     rfl
    refine hK.out _ _ ⟨((cell_far (p := ⟨gb565, _, none⟩) NB564_565.out _).trans (((cell_far (p := ⟨gb565, _, none⟩) NB564_565.out _).trans (hHeld.1)))), ((cell_far (p := ⟨gb565, _, none⟩) NB564_565.out _).trans (((cell_far (p := ⟨gb565, _, none⟩) NB564_565.out _).trans (hHeld.2))))⟩ (fun hHeld => ?_)
    clear hK K
    refine done_ (done_of HT_.out (by kernel_rfl)) ?_
    try go_wp2
    refine bodyPost_ret (results_cell_row rfl _ _ gb565 24 #[.int .u64 t569, .int .u64 t570] (0, 0) _ rfl (by (with_reducible repeat (first | apply bN_ | apply bD_ | apply bA_)); refine blk_put (cs := #[.int .u64 t569, .int .u64 0]) ?_ 1 _ rfl; (with_reducible repeat (first | apply bN_ | apply bD_ | apply bA_)); refine blk_put (cs := #[.int .u64 0, .int .u64 0]) ?_ 0 _ rfl; exact bk_) Tryz.underlying24 rfl (by kernel_rfl)) rfl ?_
    exact ⟨vv_, bz_⟩

/-! ### lockgateref03_without: function 183 -/
def lockgateref03_without.f (a0 : Int) (a1 : Int) : Option (Int × Int) := some (Go.bits .andNot .u64 a0 a1, a1)
set_option maxHeartbeats 8000000 in
set_option maxRecDepth 100000 in
theorem lockgateref03_without.calls (a0 : Int) (a1 : Int) (r1 : Int) (r2 : Int) (w : World) (h : lockgateref03_without.f a0 a1 = some (r1, r2)) :
 Calls Tryz.prog 183 #[.int .u64 a0, .int .u64 a1] w fun e w' => e = .returned (.agg #[.int .u64 r1, .int .u64 r2]) ∧ Below w.heap.size w w' := by
 have hu24 := Tryz.underlying24
 have HB := Aside0.mk (Below.refl w.heap.size w)
 have H : (some (Go.bits .andNot .u64 a0 a1, a1)) = some (r1, r2) := h
 clear h
 simp only [Option.some.injEq, Prod.mk.injEq] at H
 obtain ⟨rfl, rfl⟩ := H
 go_enter Tryz.func183, Tryz.ntmps183
 go_wp2_with (first | ((with_reducible refine gate_dst (N := 4) rfl ?_); refine bx_ 4 #[.int .u64 0, .int .u64 0] 24 ?_; intro gb601 hg w3 BK601 hb; have GW601 := bg_ hg; have GE601 := GW601; replace HB := bl_ hb; clear hb hg; obtain ⟨zc4_0, zc4_1, zf4_0, zf4_1⟩ := k2_ BK601))
 refine bodyPost_ret (results_cell_row rfl _ _ gb601 24 #[.int .u64 (Go.bits .andNot .u64 a0 a1), .int .u64 a1] (0, 0) _ rfl (by (with_reducible repeat (first | apply bN_ | apply bD_ | apply bA_)); refine blk_put (cs := #[.int .u64 (Go.bits .andNot .u64 a0 a1), .int .u64 0]) ?_ 1 _ rfl; (with_reducible repeat (first | apply bN_ | apply bD_ | apply bA_)); refine blk_put (cs := #[.int .u64 0, .int .u64 0]) ?_ 0 _ rfl; exact bk_) Tryz.underlying24 rfl (by kernel_rfl)) rfl ?_
 exact ⟨vv_, bz_⟩

/-! ### lockgateref03_Add: function 131 -/
def lockgateref03_Add.f (a0_0 : Int) (a0_1 : Int) (a1_0 : Int) (a1_1 : Int) : Option (Int × Int) := (lockgateref03_without.f (IntKind.u64.wrap (a0_0 + a1_0)) (Go.bits .or .u64 (Go.bits .or .u64 (Go.bits .xor .u64 (IntKind.u64.wrap ((IntKind.u64.wrap ((IntKind.u64.wrap (a0_0 + a1_0)) + a0_1)) + a1_1)) (IntKind.u64.wrap (a0_0 + a1_0))) a0_1) a1_1)).bind fun bt605 => (some (bt605.1, bt605.2))
set_option maxHeartbeats 8000000 in
set_option maxRecDepth 100000 in
theorem lockgateref03_Add.calls (a0_0 : Int) (a0_1 : Int) (a1_0 : Int) (a1_1 : Int) (r1 : Int) (r2 : Int) (w : World) (h : lockgateref03_Add.f a0_0 a0_1 a1_0 a1_1 = some (r1, r2)) :
 Calls Tryz.prog 131 #[.agg #[.int .u64 a0_0, .int .u64 a0_1], .agg #[.int .u64 a1_0, .int .u64 a1_1]] w fun e w' => e = .returned (.agg #[.int .u64 r1, .int .u64 r2]) ∧ Below w.heap.size w w' := by
 have hu24 := Tryz.underlying24
 have HB := Aside0.mk (Below.refl w.heap.size w)
 have H : ((lockgateref03_without.f (IntKind.u64.wrap (a0_0 + a1_0)) (Go.bits .or .u64 (Go.bits .or .u64 (Go.bits .xor .u64 (IntKind.u64.wrap ((IntKind.u64.wrap ((IntKind.u64.wrap (a0_0 + a1_0)) + a0_1)) + a1_1)) (IntKind.u64.wrap (a0_0 + a1_0))) a0_1) a1_1)).bind fun bt605 => (some (bt605.1, bt605.2))) = some (r1, r2) := h
 clear h
 replace H := Option.bind_eq_some_iff.mp H
 obtain ⟨⟨t605, t606⟩, A30, H⟩ := H
 replace H : (some (t605, t606)) = some (r1, r2) := H
 have A3 := Aside0.mk A30
 clear A30
 simp only [Option.some.injEq, Prod.mk.injEq] at H
 obtain ⟨rfl, rfl⟩ := H
 go_enter Tryz.func131, Tryz.ntmps131
 go_wp2_with (first | ((with_reducible refine gate_dst (N := 2) rfl ?_); refine bx_ 2 #[.int .u64 a0_0, .int .u64 a0_1] 24 ?_; intro gb602 hg w4 BK602 hb; have GW602 := bg_ hg; have GE602 := GW602; replace HB := bl_ hb; clear hb hg) | ((with_reducible refine gate_dst (N := 3) rfl ?_); refine bx_ 3 #[.int .u64 a1_0, .int .u64 a1_1] 24 ?_; intro gb603 hg w5 BK603 hb; have GW603 := bg_ hg; have GE603 := GW603; have NB602_603 := bm_ hg BK602; have NB603_602 := bn_ hg BK602; replace BK602 := bb_ hb BK602; replace HB := bl_ hb; clear hb hg) | ((with_reducible refine gate_dst (N := 4) rfl ?_); refine bx_ 4 #[.int .u64 0, .int .u64 0] 24 ?_; intro gb604 hg w6 BK604 hb; have GW604 := bg_ hg; have GE604 := GW604; have NB602_604 := bm_ hg BK602; have NB604_602 := bn_ hg BK602; have NB603_604 := bm_ hg BK603; have NB604_603 := bn_ hg BK603; replace BK602 := bb_ hb BK602; replace BK603 := bb_ hb BK603; replace HB := bl_ hb; clear hb hg; have hnb7 := NB602_603.out; have hnc7 := NB603_602.out; have hnb8 := NB602_604.out; have hnc8 := NB604_602.out; obtain ⟨zc9_0, zc9_1, zf9_0, zf9_1⟩ := k2_ BK602; have hnb10 := NB603_604.out; have hnc10 := NB604_603.out; obtain ⟨zc11_0, zc11_1, zf11_0, zf11_1⟩ := k2_ BK603) | ((with_reducible refine gate_callee (f := 183) rfl ?_); refine goesL_ (some 29) rfl rfl Tryz.func183 (by kernel_rfl) rfl #[.int .u64 (IntKind.u64.wrap (a0_0 + a1_0)), .int .u64 (Go.bits .or .u64 (Go.bits .or .u64 (Go.bits .xor .u64 (IntKind.u64.wrap ((IntKind.u64.wrap ((IntKind.u64.wrap (a0_0 + a1_0)) + a0_1)) + a1_1)) (IntKind.u64.wrap (a0_0 + a1_0))) a0_1) a1_1)] rfl mp_ ?_; (with_reducible refine (lockgateref03_without.calls (IntKind.u64.wrap (a0_0 + a1_0)) (Go.bits .or .u64 (Go.bits .or .u64 (Go.bits .xor .u64 (IntKind.u64.wrap ((IntKind.u64.wrap ((IntKind.u64.wrap (a0_0 + a1_0)) + a0_1)) + a1_1)) (IntKind.u64.wrap (a0_0 + a1_0))) a0_1) a1_1) t605 t606 _ A3.out).mono ?_); rintro e w12 ⟨rfl, hb⟩; refine ⟨_, rfl, ?_⟩; replace BK602 := bb_ hb BK602; replace BK603 := bb_ hb BK603; replace BK604 := bb_ hb BK604; replace HB := bl_ hb; (try clear hb); (try clear hb2); (try clear hk); (try clear hi); obtain ⟨zc13_0, zc13_1, zf13_0, zf13_1⟩ := k2_ BK604))
 refine bodyPost_ret (results_cell_row rfl _ _ gb604 24 #[.int .u64 t605, .int .u64 t606] (0, 0) _ rfl (by (with_reducible repeat (first | apply bN_ | apply bD_ | apply bA_)); refine blk_put (cs := #[.int .u64 t605, .int .u64 0]) ?_ 1 _ rfl; (with_reducible repeat (first | apply bN_ | apply bD_ | apply bA_)); refine blk_put (cs := #[.int .u64 0, .int .u64 0]) ?_ 0 _ rfl; exact bk_) Tryz.underlying24 rfl (by kernel_rfl)) rfl ?_
 exact ⟨vv_, bz_⟩

/-! ### lockgateref03_Sub: function 134 -/
def lockgateref03_Sub.f (a0_0 : Int) (a0_1 : Int) (a1_0 : Int) (a1_1 : Int) : Option (Int × Int) := (lockgateref03_without.f (IntKind.u64.wrap (a0_0 - a1_0)) (Go.bits .or .u64 (Go.bits .or .u64 (Go.bits .xor .u64 (IntKind.u64.wrap ((IntKind.u64.wrap (a0_0 - a1_0)) + a0_1)) (IntKind.u64.wrap ((IntKind.u64.wrap (a0_0 - a1_0)) - a1_1))) a0_1) a1_1)).bind fun bt632 => (some (bt632.1, bt632.2))
set_option maxHeartbeats 8000000 in
set_option maxRecDepth 100000 in
theorem lockgateref03_Sub.calls (a0_0 : Int) (a0_1 : Int) (a1_0 : Int) (a1_1 : Int) (r1 : Int) (r2 : Int) (w : World) (h : lockgateref03_Sub.f a0_0 a0_1 a1_0 a1_1 = some (r1, r2)) :
 Calls Tryz.prog 134 #[.agg #[.int .u64 a0_0, .int .u64 a0_1], .agg #[.int .u64 a1_0, .int .u64 a1_1]] w fun e w' => e = .returned (.agg #[.int .u64 r1, .int .u64 r2]) ∧ Below w.heap.size w w' := by
 have hu24 := Tryz.underlying24
 have HB := Aside0.mk (Below.refl w.heap.size w)
 have H : ((lockgateref03_without.f (IntKind.u64.wrap (a0_0 - a1_0)) (Go.bits .or .u64 (Go.bits .or .u64 (Go.bits .xor .u64 (IntKind.u64.wrap ((IntKind.u64.wrap (a0_0 - a1_0)) + a0_1)) (IntKind.u64.wrap ((IntKind.u64.wrap (a0_0 - a1_0)) - a1_1))) a0_1) a1_1)).bind fun bt632 => (some (bt632.1, bt632.2))) = some (r1, r2) := h
 clear h
 replace H := Option.bind_eq_some_iff.mp H
 obtain ⟨⟨t632, t633⟩, A30, H⟩ := H
 replace H : (some (t632, t633)) = some (r1, r2) := H
 have A3 := Aside0.mk A30
 clear A30
 simp only [Option.some.injEq, Prod.mk.injEq] at H
 obtain ⟨rfl, rfl⟩ := H
 go_enter Tryz.func134, Tryz.ntmps134
 go_wp2_with (first | ((with_reducible refine gate_dst (N := 2) rfl ?_); refine bx_ 2 #[.int .u64 a0_0, .int .u64 a0_1] 24 ?_; intro gb629 hg w4 BK629 hb; have GW629 := bg_ hg; have GE629 := GW629; replace HB := bl_ hb; clear hb hg) | ((with_reducible refine gate_dst (N := 3) rfl ?_); refine bx_ 3 #[.int .u64 a1_0, .int .u64 a1_1] 24 ?_; intro gb630 hg w5 BK630 hb; have GW630 := bg_ hg; have GE630 := GW630; have NB629_630 := bm_ hg BK629; have NB630_629 := bn_ hg BK629; replace BK629 := bb_ hb BK629; replace HB := bl_ hb; clear hb hg) | ((with_reducible refine gate_dst (N := 4) rfl ?_); refine bx_ 4 #[.int .u64 0, .int .u64 0] 24 ?_; intro gb631 hg w6 BK631 hb; have GW631 := bg_ hg; have GE631 := GW631; have NB629_631 := bm_ hg BK629; have NB631_629 := bn_ hg BK629; have NB630_631 := bm_ hg BK630; have NB631_630 := bn_ hg BK630; replace BK629 := bb_ hb BK629; replace BK630 := bb_ hb BK630; replace HB := bl_ hb; clear hb hg; have hnb7 := NB629_630.out; have hnc7 := NB630_629.out; have hnb8 := NB629_631.out; have hnc8 := NB631_629.out; obtain ⟨zc9_0, zc9_1, zf9_0, zf9_1⟩ := k2_ BK629; have hnb10 := NB630_631.out; have hnc10 := NB631_630.out; obtain ⟨zc11_0, zc11_1, zf11_0, zf11_1⟩ := k2_ BK630) | ((with_reducible refine gate_callee (f := 183) rfl ?_); refine goesL_ (some 27) rfl rfl Tryz.func183 (by kernel_rfl) rfl #[.int .u64 (IntKind.u64.wrap (a0_0 - a1_0)), .int .u64 (Go.bits .or .u64 (Go.bits .or .u64 (Go.bits .xor .u64 (IntKind.u64.wrap ((IntKind.u64.wrap (a0_0 - a1_0)) + a0_1)) (IntKind.u64.wrap ((IntKind.u64.wrap (a0_0 - a1_0)) - a1_1))) a0_1) a1_1)] rfl mp_ ?_; (with_reducible refine (lockgateref03_without.calls (IntKind.u64.wrap (a0_0 - a1_0)) (Go.bits .or .u64 (Go.bits .or .u64 (Go.bits .xor .u64 (IntKind.u64.wrap ((IntKind.u64.wrap (a0_0 - a1_0)) + a0_1)) (IntKind.u64.wrap ((IntKind.u64.wrap (a0_0 - a1_0)) - a1_1))) a0_1) a1_1) t632 t633 _ A3.out).mono ?_); rintro e w12 ⟨rfl, hb⟩; refine ⟨_, rfl, ?_⟩; replace BK629 := bb_ hb BK629; replace BK630 := bb_ hb BK630; replace BK631 := bb_ hb BK631; replace HB := bl_ hb; (try clear hb); (try clear hb2); (try clear hk); (try clear hi); obtain ⟨zc13_0, zc13_1, zf13_0, zf13_1⟩ := k2_ BK631))
 refine bodyPost_ret (results_cell_row rfl _ _ gb631 24 #[.int .u64 t632, .int .u64 t633] (0, 0) _ rfl (by (with_reducible repeat (first | apply bN_ | apply bD_ | apply bA_)); refine blk_put (cs := #[.int .u64 t632, .int .u64 0]) ?_ 1 _ rfl; (with_reducible repeat (first | apply bN_ | apply bD_ | apply bA_)); refine blk_put (cs := #[.int .u64 0, .int .u64 0]) ?_ 0 _ rfl; exact bk_) Tryz.underlying24 rfl (by kernel_rfl)) rfl ?_
 exact ⟨vv_, bz_⟩

/-! ### lockgateref03_Mul: function 137 -/
def lockgateref03_Mul.l0 : Nat → Int → Int → Int → Int → Int → Int → Int → Option (Int × Int)
 | 0, _, _, _, _, _, _, _ => none
 | k + 1, x6, x655000, x655001, x656000, x656001, x660000, x660001 => if x6 < 64 then (if 0 ≤ x6 then (if (Int.tmod (shr .u64 x655000 x6) 2) = 1 then ((lockgateref03_Add.f x660000 x660001 0 (shl .u64 x656001 x6)).bind fun bt664 => (lockgateref03_Mul.l0 k (IntKind.u64.wrap (x6 + 1)) x655000 x655001 x656000 x656001 bt664.1 bt664.2)) else (if (Int.tmod (shr .u64 x655001 x6) 2) = 1 then ((lockgateref03_Add.f x660000 x660001 0 (shl .u64 (Go.bits .or .u64 x656000 x656001) x6)).bind fun bt666 => (lockgateref03_Mul.l0 k (IntKind.u64.wrap (x6 + 1)) x655000 x655001 x656000 x656001 bt666.1 bt666.2)) else (lockgateref03_Mul.l0 k (IntKind.u64.wrap (x6 + 1)) x655000 x655001 x656000 x656001 x660000 x660001))) else (none)) else ((lockgateref03_Of.f (IntKind.u64.wrap (x655000 * x656000))).bind fun bt660 => ((lockgateref03_Add.f bt660.1 bt660.2 x660000 x660001).bind fun bt662 => (some (bt662.1, bt662.2))))
def lockgateref03_Mul.f (k : Nat) (a0_0 : Int) (a0_1 : Int) (a1_0 : Int) (a1_1 : Int) : Option (Int × Int) := (lockgateref03_Of.f 0).bind fun bt657 => (lockgateref03_Mul.l0 k 0 a0_0 a0_1 a1_0 a1_1 bt657.1 bt657.2)
theorem lockgateref03_Mul.mono_l : ∀ k, (∀ y0 y1 y2 y3 y4 y5 y6, LeO (lockgateref03_Mul.l0 k y0 y1 y2 y3 y4 y5 y6) (lockgateref03_Mul.l0 (k + 1) y0 y1 y2 y3 y4 y5 y6))
 | 0 => fun _ _ _ _ _ _ _ r h => by simp [lockgateref03_Mul.l0] at h
 | k + 1 => by
  have ih0 := lockgateref03_Mul.mono_l k
  ·intro y0 y1 y2 y3 y4 y5 y6
   unfold lockgateref03_Mul.l0
   repeat' first
   | (with_reducible exact ih0 _ _ _ _ _ _ _)
   | (with_reducible exact LeO.refl _)
   | (with_reducible exact LeO.none _)
   | (with_reducible refine LeO.ite ?_ ?_)
   | (with_reducible refine LeO.bind ?_ (fun _ => ?_))
   | exact ih0 _ _ _ _ _ _ _
   | exact LeO.none _
   | refine LeO.ite ?_ ?_
   | refine LeO.bind ?_ (fun _ => ?_)
theorem lockgateref03_Mul.mono : ∀ a0 a1 a2 a3 k, LeO (lockgateref03_Mul.f k a0 a1 a2 a3) (lockgateref03_Mul.f (k + 1) a0 a1 a2 a3) := by
 intro a0 a1 a2 a3 k
 have ih0 := lockgateref03_Mul.mono_l k
 unfold lockgateref03_Mul.f
 repeat' first
  | (with_reducible exact ih0 _ _ _ _ _ _ _)
  | (with_reducible exact LeO.refl _)
  | (with_reducible exact LeO.none _)
  | (with_reducible refine LeO.ite ?_ ?_)
  | (with_reducible refine LeO.bind ?_ (fun _ => ?_))
  | exact ih0 _ _ _ _ _ _ _
  | exact LeO.none _
  | refine LeO.ite ?_ ?_
  | refine LeO.bind ?_ (fun _ => ?_)
def lockgateref03_Mul.T9 : Bool × List (List Nat × List Nat) := (true, [([], []), ([0], [0]), ([], []), ([2], [2]), ([1, 3], [1, 3]), ([4], [4]), ([], []), ([5, 6, 5], [5, 6]), ([7, 7, 0, 1, 2, 3, 4, 5, 6, 7], [7])])
def lockgateref03_Mul.B9 : List Nat := [0, 1, 0, 4, 15, 31, 0, 127, 255]
theorem lockgateref03_Mul.tab9 : rtab .any (opsOf Tryz.f137 9) = lockgateref03_Mul.T9 := by kernel_rfl
theorem lockgateref03_Mul.bits9 : waitsOk lockgateref03_Mul.T9.2 lockgateref03_Mul.B9 = true := by kernel_rfl
set_option maxHeartbeats 8000000 in
set_option maxRecDepth 100000 in
theorem lockgateref03_Mul.calls (k : Nat) (a0_0 : Int) (a0_1 : Int) (a1_0 : Int) (a1_1 : Int) (r1 : Int) (r2 : Int) (w : World) (h : lockgateref03_Mul.f k a0_0 a0_1 a1_0 a1_1 = some (r1, r2)) :
 Calls Tryz.prog 137 #[.agg #[.int .u64 a0_0, .int .u64 a0_1], .agg #[.int .u64 a1_0, .int .u64 a1_1]] w fun e w' => e = .returned (.agg #[.int .u64 r1, .int .u64 r2]) ∧ Below w.heap.size w w' := by
 have hu24 := Tryz.underlying24
 have HB := Aside0.mk (Below.refl w.heap.size w)
 have H : ((lockgateref03_Of.f 0).bind fun bt657 => (lockgateref03_Mul.l0 k 0 a0_0 a0_1 a1_0 a1_1 bt657.1 bt657.2)) = some (r1, r2) := h
 clear h
 replace H := Option.bind_eq_some_iff.mp H
 obtain ⟨⟨t657, t658⟩, A30, H⟩ := H
 replace H : (lockgateref03_Mul.l0 k 0 a0_0 a0_1 a1_0 a1_1 t657 t658) = some (r1, r2) := H
 have A3 := Aside0.mk A30
 clear A30
 have H' := Aside0.mk H
 clear H
 go_enter Tryz.func137, Tryz.ntmps137
 go_wp2_with (first | ((with_reducible refine gate_dst (N := 2) rfl ?_); refine bx_ 2 #[.int .u64 a0_0, .int .u64 a0_1] 24 ?_; intro gb654 hg w4 BK654 hb; have GW654 := bg_ hg; have GE654 := GW654; replace HB := bl_ hb; clear hb hg) | ((with_reducible refine gate_dst (N := 3) rfl ?_); refine bx_ 3 #[.int .u64 a1_0, .int .u64 a1_1] 24 ?_; intro gb655 hg w5 BK655 hb; have GW655 := bg_ hg; have GE655 := GW655; have NB654_655 := bm_ hg BK654; have NB655_654 := bn_ hg BK654; replace BK654 := bb_ hb BK654; replace HB := bl_ hb; clear hb hg) | ((with_reducible refine gate_dst (N := 4) rfl ?_); refine bx_ 4 #[.int .u64 0, .int .u64 0] 24 ?_; intro gb656 hg w6 BK656 hb; have GW656 := bg_ hg; have GE656 := GW656; have NB654_656 := bm_ hg BK654; have NB656_654 := bn_ hg BK654; have NB655_656 := bm_ hg BK655; have NB656_655 := bn_ hg BK655; replace BK654 := bb_ hb BK654; replace BK655 := bb_ hb BK655; replace HB := bl_ hb; clear hb hg) | ((with_reducible refine gate_callee (f := 61) rfl ?_); refine gM_ 7 Tryz.func61 (lockgateref03_Of.calls 0 t657 t658 _ A3.out) ?_; intro w7 hb; replace BK654 := bb_ hb BK654; replace BK655 := bb_ hb BK655; replace BK656 := bb_ hb BK656; replace HB := bl_ hb; (try clear hb); (try clear hb2); (try clear hk); (try clear hi)) | ((with_reducible refine gate_dst (N := 5) rfl ?_); refine bx_ 5 #[.int .u64 0, .int .u64 0] 24 ?_; intro gb659 hg w8 BK659 hb; have GW659 := bg_ hg; have GE659 := GW659; have NB654_659 := bm_ hg BK654; have NB659_654 := bn_ hg BK654; have NB655_659 := bm_ hg BK655; have NB659_655 := bn_ hg BK655; have NB656_659 := bm_ hg BK656; have NB659_656 := bn_ hg BK656; replace BK654 := bb_ hb BK654; replace BK655 := bb_ hb BK655; replace BK656 := bb_ hb BK656; replace HB := bl_ hb; clear hb hg; have hnb9 := NB659_654.out; have hnc9 := NB654_659.out; have hnb10 := NB659_655.out; have hnc10 := NB655_659.out; have hnb11 := NB659_656.out; have hnc11 := NB656_659.out; obtain ⟨zc12_0, zc12_1, zf12_0, zf12_1⟩ := k2_ BK659))
 go_loopg [6] k (fun kq v6 w' => ∃ (x6_1 : Int) (x660000_1 : Int) (x660001_1 : Int), v6 = .int .u64 x6_1 ∧ Aside0 (lockgateref03_Mul.l0 kq x6_1 a0_0 a0_1 a1_0 a1_1 x660000_1 x660001_1 = some (r1, r2)) ∧ Aside0 (kq ≤ k) ∧ Aside0 (w'.heap[gb654]? = some (.cells #[.int .u64 a0_0, .int .u64 a0_1] 24 (0, 0))) ∧ Aside0 (w'.heap[gb655]? = some (.cells #[.int .u64 a1_0, .int .u64 a1_1] 24 (0, 0))) ∧ Aside0 (w'.heap[gb656]? = some (.cells #[.int .u64 0, .int .u64 0] 24 (0, 0))) ∧ Aside0 (w'.heap[gb659]? = some (.cells #[.int .u64 x660000_1, .int .u64 x660001_1] 24 (0, 0))) ∧ Aside0 (Below w.heap.size w w'))
 case atStart => exact ⟨(0), (t657), (t658), (by first | rfl | (simp; done) | (simp [*]; done)), H', ⟨Nat.le_refl _⟩, ⟨by (with_reducible repeat (first | apply bN_ | apply bD_ | apply bA_)); refine blk_far ?_ NB654_659.out _; (with_reducible repeat (first | apply bN_ | apply bD_ | apply bA_)); refine blk_far ?_ NB654_659.out _; exact bk_⟩, ⟨by (with_reducible repeat (first | apply bN_ | apply bD_ | apply bA_)); refine blk_far ?_ NB655_659.out _; (with_reducible repeat (first | apply bN_ | apply bD_ | apply bA_)); refine blk_far ?_ NB655_659.out _; exact bk_⟩, ⟨by (with_reducible repeat (first | apply bN_ | apply bD_ | apply bA_)); refine blk_far ?_ NB656_659.out _; (with_reducible repeat (first | apply bN_ | apply bD_ | apply bA_)); refine blk_far ?_ NB656_659.out _; exact bk_⟩, ⟨by (with_reducible repeat (first | apply bN_ | apply bD_ | apply bA_)); refine blk_put (cs := #[.int .u64 t657, .int .u64 0]) ?_ 1 _ rfl; (with_reducible repeat (first | apply bN_ | apply bD_ | apply bA_)); refine blk_put (cs := #[.int .u64 0, .int .u64 0]) ?_ 0 _ rfl; exact bk_⟩, ⟨bz_⟩⟩
 case round =>
  clear H'
  try clear c1
  try clear p2
  try clear c6
  try clear c9
  try clear c10
  try clear c11
  try clear zc12_0
  try clear zc12_1
  try clear zf12_0
  try clear zf12_1
  obtain ⟨x6_1, x660000_1, x660001_1, rfl, HA, HK1, BK654, BK655, BK656, BK659, HB⟩ := hrel
  cases gk with
  | zero => exact absurd HA.out (by simp [lockgateref03_Mul.l0])
  | succ k1 =>
   have H := HA.out
   clear HA
   simp only [lockgateref03_Mul.l0] at H
   by_cases c13 : x6_1 < 64
   ·rw [if_pos c13] at H
    have c13b0 : decide (x6_1 < 64) = true := decide_eq_true c13
    clear c13
    by_cases c14 : 0 ≤ x6_1
    ·rw [if_pos c14] at H
     have c14b0 := eq_true c14
     have c14b1 : decide (0 ≤ x6_1) = true := decide_eq_true c14
     clear c14
     obtain ⟨ji15, hji15⟩ : ∃ j_ : Int, (shr .u64 a0_0 x6_1) = j_ := ⟨_, rfl⟩
     replace H : (if (Int.tmod (ji15) 2) = 1 then ((lockgateref03_Add.f x660000_1 x660001_1 0 (shl .u64 a1_1 x6_1)).bind fun bt664 => (lockgateref03_Mul.l0 k1 (IntKind.u64.wrap (x6_1 + 1)) a0_0 a0_1 a1_0 a1_1 bt664.1 bt664.2)) else (if (Int.tmod (shr .u64 a0_1 x6_1) 2) = 1 then ((lockgateref03_Add.f x660000_1 x660001_1 0 (shl .u64 (Go.bits .or .u64 a1_0 a1_1) x6_1)).bind fun bt666 => (lockgateref03_Mul.l0 k1 (IntKind.u64.wrap (x6_1 + 1)) a0_0 a0_1 a1_0 a1_1 bt666.1 bt666.2)) else (lockgateref03_Mul.l0 k1 (IntKind.u64.wrap (x6_1 + 1)) a0_0 a0_1 a1_0 a1_1 x660000_1 x660001_1))) = some (r1, r2) := by first | (rw [hji15] at H; exact H) | (simp only [hji15] at H ⊢; exact H)
     have hji15_ : (a0_0 / 2 ^ min x6_1.toNat 64) = ji15 := hji15
     have hji15z : x6_1 ≤ 64 → (a0_0 / 2 ^ x6_1.toNat) = ji15 := shr_small hji15
     by_cases c16 : (Int.tmod (ji15) 2) = 1
     ·rw [if_pos c16] at H
      have c16b0 : ((Int.tmod (ji15) 2) == 1) = true := beq_iff_eq.mpr c16
      have c16b1 : ((Int.tmod (ji15) 2) != 1) = false := bne_eq_false_iff_eq.mpr c16
      clear c16
      have c17b0 := eq_true (of_decide_eq_true (by first | (with_reducible assumption) | assumption) : 0 ≤ x6_1)
      obtain ⟨ji18, hji18⟩ : ∃ j_ : Int, (shl .u64 a1_1 x6_1) = j_ := ⟨_, rfl⟩
      replace H : ((lockgateref03_Add.f x660000_1 x660001_1 0 (ji18)).bind fun bt664 => (lockgateref03_Mul.l0 k1 (IntKind.u64.wrap (x6_1 + 1)) a0_0 a0_1 a1_0 a1_1 bt664.1 bt664.2)) = some (r1, r2) := by first | (rw [hji18] at H; exact H) | (simp only [hji18] at H ⊢; exact H)
      have hji18_ : (IntKind.u64.wrap (a1_1 * 2 ^ min x6_1.toNat 64)) = ji18 := hji18
      have hji18z : x6_1 ≤ 64 → (IntKind.u64.wrap (a1_1 * 2 ^ x6_1.toNat)) = ji18 := shl_small hji18
      replace H := Option.bind_eq_some_iff.mp H
      obtain ⟨⟨t664, t665⟩, A190, H⟩ := H
      replace H : (lockgateref03_Mul.l0 k1 (IntKind.u64.wrap (x6_1 + 1)) a0_0 a0_1 a1_0 a1_1 t664 t665) = some (r1, r2) := H
      have A19 := Aside0.mk A190
      clear A190
      have H' := Aside0.mk H
      clear H
      have hnb20 := NB654_655.out
      have hnc20 := NB655_654.out
      have hnb21 := NB654_656.out
      have hnc21 := NB656_654.out
      have hnb22 := NB654_659.out
      have hnc22 := NB659_654.out
      obtain ⟨zc23_0, zc23_1, zf23_0, zf23_1⟩ := k2_ BK654
      have hnb24 := NB659_655.out
      have hnc24 := NB655_659.out
      have hnb25 := NB659_656.out
      have hnc25 := NB656_659.out
      obtain ⟨zc26_0, zc26_1, zf26_0, zf26_1⟩ := k2_ BK659
      have hnb27 := NB655_656.out
      have hnc27 := NB656_655.out
      obtain ⟨zc28_0, zc28_1, zf28_0, zf28_1⟩ := k2_ BK655
      go_wp2_with (first | ((with_reducible refine gate_callee (f := 131) rfl ?_); refine goesL_ (some 24) rfl rfl Tryz.func131 (by kernel_rfl) rfl #[.agg #[.int .u64 x660000_1, .int .u64 x660001_1], .agg #[.int .u64 0, .int .u64 ji18]] rfl (by (try simp only [List.map_toArray, List.map_cons, List.map_nil]); first | done | (simp only [hji18]; rfl) | rfl | (simp only [List.length_drop, List.length_take]; rfl)) ?_; (with_reducible refine (lockgateref03_Add.calls x660000_1 x660001_1 0 ji18 t664 t665 _ A19.out).mono ?_); rintro e w29 ⟨rfl, hb⟩; refine ⟨_, rfl, ?_⟩; replace BK654 := bb_ hb BK654; replace BK655 := bb_ hb BK655; replace BK656 := bb_ hb BK656; replace BK659 := bb_ hb BK659; replace HB := bl_ hb; (try clear hb); (try clear hb2); (try clear hk); (try clear hi); obtain ⟨zc30_0, zc30_1, zf30_0, zf30_1⟩ := k2_ BK659))
      go_roundg k1
      case measure => have := HK1.out; omega
      case rel => exact ⟨(IntKind.u64.wrap (x6_1 + 1)), (t664), (t665), (by first | rfl | (simp; done) | (simp [*]; done)), H', ⟨by have := HK1.out; omega⟩, ⟨by (with_reducible repeat (first | apply bN_ | apply bD_ | apply bA_)); refine blk_far ?_ NB654_659.out _; (with_reducible repeat (first | apply bN_ | apply bD_ | apply bA_)); refine blk_far ?_ NB654_659.out _; exact bk_⟩, ⟨by (with_reducible repeat (first | apply bN_ | apply bD_ | apply bA_)); refine blk_far ?_ NB655_659.out _; (with_reducible repeat (first | apply bN_ | apply bD_ | apply bA_)); refine blk_far ?_ NB655_659.out _; exact bk_⟩, ⟨by (with_reducible repeat (first | apply bN_ | apply bD_ | apply bA_)); refine blk_far ?_ NB656_659.out _; (with_reducible repeat (first | apply bN_ | apply bD_ | apply bA_)); refine blk_far ?_ NB656_659.out _; exact bk_⟩, ⟨by (with_reducible repeat (first | apply bN_ | apply bD_ | apply bA_)); refine blk_put (cs := #[.int .u64 t664, .int .u64 x660001_1]) ?_ 1 _ rfl; (with_reducible repeat (first | apply bN_ | apply bD_ | apply bA_)); refine blk_put (cs := #[.int .u64 x660000_1, .int .u64 x660001_1]) ?_ 0 _ rfl; exact bk_⟩, ⟨bz_⟩⟩
     ·rw [if_neg c16] at H
      have c16b0 : ((Int.tmod (ji15) 2) == 1) = false := beq_eq_false_iff_ne.mpr c16
      have c16b1 : ((Int.tmod (ji15) 2) != 1) = true := bne_iff_ne.mpr c16
      have c31b0 := eq_true (of_decide_eq_true (by first | (with_reducible assumption) | assumption) : 0 ≤ x6_1)
      obtain ⟨ji32, hji32⟩ : ∃ j_ : Int, (shr .u64 a0_1 x6_1) = j_ := ⟨_, rfl⟩
      replace H : (if (Int.tmod (ji32) 2) = 1 then ((lockgateref03_Add.f x660000_1 x660001_1 0 (shl .u64 (Go.bits .or .u64 a1_0 a1_1) x6_1)).bind fun bt666 => (lockgateref03_Mul.l0 k1 (IntKind.u64.wrap (x6_1 + 1)) a0_0 a0_1 a1_0 a1_1 bt666.1 bt666.2)) else (lockgateref03_Mul.l0 k1 (IntKind.u64.wrap (x6_1 + 1)) a0_0 a0_1 a1_0 a1_1 x660000_1 x660001_1)) = some (r1, r2) := by first | (rw [hji32] at H; exact H) | (simp only [hji32] at H ⊢; exact H)
      have hji32_ : (a0_1 / 2 ^ min x6_1.toNat 64) = ji32 := hji32
      have hji32z : x6_1 ≤ 64 → (a0_1 / 2 ^ x6_1.toNat) = ji32 := shr_small hji32
      by_cases c33 : (Int.tmod (ji32) 2) = 1
      ·rw [if_pos c33] at H
       have c33b0 : ((Int.tmod (ji32) 2) == 1) = true := beq_iff_eq.mpr c33
       have c33b1 : ((Int.tmod (ji32) 2) != 1) = false := bne_eq_false_iff_eq.mpr c33
       clear c33
       have c34b0 := eq_true (of_decide_eq_true (by first | (with_reducible assumption) | assumption) : 0 ≤ x6_1)
       obtain ⟨ji35, hji35⟩ : ∃ j_ : Int, (shl .u64 (Go.bits .or .u64 a1_0 a1_1) x6_1) = j_ := ⟨_, rfl⟩
       replace H : ((lockgateref03_Add.f x660000_1 x660001_1 0 (ji35)).bind fun bt666 => (lockgateref03_Mul.l0 k1 (IntKind.u64.wrap (x6_1 + 1)) a0_0 a0_1 a1_0 a1_1 bt666.1 bt666.2)) = some (r1, r2) := by first | (rw [hji35] at H; exact H) | (simp only [hji35] at H ⊢; exact H)
       have hji35_ : (IntKind.u64.wrap ((Go.bits .or .u64 a1_0 a1_1) * 2 ^ min x6_1.toNat 64)) = ji35 := hji35
       have hji35z : x6_1 ≤ 64 → (IntKind.u64.wrap ((Go.bits .or .u64 a1_0 a1_1) * 2 ^ x6_1.toNat)) = ji35 := shl_small hji35
       replace H := Option.bind_eq_some_iff.mp H
       obtain ⟨⟨t666, t667⟩, A360, H⟩ := H
       replace H : (lockgateref03_Mul.l0 k1 (IntKind.u64.wrap (x6_1 + 1)) a0_0 a0_1 a1_0 a1_1 t666 t667) = some (r1, r2) := H
       have A36 := Aside0.mk A360
       clear A360
       have H' := Aside0.mk H
       clear H
       have hnb37 := NB654_655.out
       have hnc37 := NB655_654.out
       have hnb38 := NB654_656.out
       have hnc38 := NB656_654.out
       have hnb39 := NB654_659.out
       have hnc39 := NB659_654.out
       obtain ⟨zc40_0, zc40_1, zf40_0, zf40_1⟩ := k2_ BK654
       have hnb41 := NB659_655.out
       have hnc41 := NB655_659.out
       have hnb42 := NB659_656.out
       have hnc42 := NB656_659.out
       obtain ⟨zc43_0, zc43_1, zf43_0, zf43_1⟩ := k2_ BK659
       have hnb44 := NB655_656.out
       have hnc44 := NB656_655.out
       obtain ⟨zc45_0, zc45_1, zf45_0, zf45_1⟩ := k2_ BK655
       go_wp2_with (first | ((with_reducible refine gate_callee (f := 131) rfl ?_); refine goesL_ (some 40) rfl rfl Tryz.func131 (by kernel_rfl) rfl #[.agg #[.int .u64 x660000_1, .int .u64 x660001_1], .agg #[.int .u64 0, .int .u64 ji35]] rfl (by (try simp only [List.map_toArray, List.map_cons, List.map_nil]); first | done | (simp only [hji35]; rfl) | rfl | (simp only [List.length_drop, List.length_take]; rfl)) ?_; (with_reducible refine (lockgateref03_Add.calls x660000_1 x660001_1 0 ji35 t666 t667 _ A36.out).mono ?_); rintro e w46 ⟨rfl, hb⟩; refine ⟨_, rfl, ?_⟩; replace BK654 := bb_ hb BK654; replace BK655 := bb_ hb BK655; replace BK656 := bb_ hb BK656; replace BK659 := bb_ hb BK659; replace HB := bl_ hb; (try clear hb); (try clear hb2); (try clear hk); (try clear hi); obtain ⟨zc47_0, zc47_1, zf47_0, zf47_1⟩ := k2_ BK659))
       go_roundg k1
       case measure => have := HK1.out; omega
       case rel => exact ⟨(IntKind.u64.wrap (x6_1 + 1)), (t666), (t667), (by first | rfl | (simp; done) | (simp [*]; done)), H', ⟨by have := HK1.out; omega⟩, ⟨by (with_reducible repeat (first | apply bN_ | apply bD_ | apply bA_)); refine blk_far ?_ NB654_659.out _; (with_reducible repeat (first | apply bN_ | apply bD_ | apply bA_)); refine blk_far ?_ NB654_659.out _; exact bk_⟩, ⟨by (with_reducible repeat (first | apply bN_ | apply bD_ | apply bA_)); refine blk_far ?_ NB655_659.out _; (with_reducible repeat (first | apply bN_ | apply bD_ | apply bA_)); refine blk_far ?_ NB655_659.out _; exact bk_⟩, ⟨by (with_reducible repeat (first | apply bN_ | apply bD_ | apply bA_)); refine blk_far ?_ NB656_659.out _; (with_reducible repeat (first | apply bN_ | apply bD_ | apply bA_)); refine blk_far ?_ NB656_659.out _; exact bk_⟩, ⟨by (with_reducible repeat (first | apply bN_ | apply bD_ | apply bA_)); refine blk_put (cs := #[.int .u64 t666, .int .u64 x660001_1]) ?_ 1 _ rfl; (with_reducible repeat (first | apply bN_ | apply bD_ | apply bA_)); refine blk_put (cs := #[.int .u64 x660000_1, .int .u64 x660001_1]) ?_ 0 _ rfl; exact bk_⟩, ⟨bz_⟩⟩
      ·rw [if_neg c33] at H
       have c33b0 : ((Int.tmod (ji32) 2) == 1) = false := beq_eq_false_iff_ne.mpr c33
       have c33b1 : ((Int.tmod (ji32) 2) != 1) = true := bne_iff_ne.mpr c33
       have H' := Aside0.mk H
       clear H
       have hnb48 := NB654_655.out
       have hnc48 := NB655_654.out
       have hnb49 := NB654_656.out
       have hnc49 := NB656_654.out
       have hnb50 := NB654_659.out
       have hnc50 := NB659_654.out
       obtain ⟨zc51_0, zc51_1, zf51_0, zf51_1⟩ := k2_ BK654
       go_wp2
       go_roundg k1
       case measure => have := HK1.out; omega
       case rel => exact ⟨(IntKind.u64.wrap (x6_1 + 1)), (x660000_1), (x660001_1), (by first | rfl | (simp; done) | (simp [*]; done)), H', ⟨by have := HK1.out; omega⟩, ⟨bk_⟩, ⟨bk_⟩, ⟨bk_⟩, ⟨bk_⟩, ⟨bz_⟩⟩
    ·rw [if_neg c14] at H
     exact absurd H (by simp)
   ·rw [if_neg c13] at H
    have c13b0 : decide (x6_1 < 64) = false := decide_eq_false c13
    clear c13
    replace H := Option.bind_eq_some_iff.mp H
    obtain ⟨⟨t660, t661⟩, A520, H⟩ := H
    replace H : ((lockgateref03_Add.f t660 t661 x660000_1 x660001_1).bind fun bt662 => (some (bt662.1, bt662.2))) = some (r1, r2) := H
    have A52 := Aside0.mk A520
    clear A520
    replace H := Option.bind_eq_some_iff.mp H
    obtain ⟨⟨t662, t663⟩, A530, H⟩ := H
    replace H : (some (t662, t663)) = some (r1, r2) := H
    have A53 := Aside0.mk A530
    clear A530
    simp only [Option.some.injEq, Prod.mk.injEq] at H
    obtain ⟨rfl, rfl⟩ := H
    try go_wp2
    replace BK654 := Aside0.mk (blk_drew BK654.out)
    replace BK655 := Aside0.mk (blk_drew BK655.out)
    replace BK656 := Aside0.mk (blk_drew BK656.out)
    replace BK659 := Aside0.mk (blk_drew BK659.out)
    replace HB := Aside0.mk (below_drew1 HB.out)
    refine start_ (n := 9) (S := fun w' => w'.cell? ⟨gb654, 0, none⟩ = some (.int .u64 a0_0) ∧ w'.cell? ⟨gb654, 1, none⟩ = some (.int .u64 a0_1) ∧ w'.cell? ⟨gb655, 0, none⟩ = some (.int .u64 a1_0) ∧ w'.cell? ⟨gb655, 1, none⟩ = some (.int .u64 a1_1) ∧ w'.cell? ⟨gb659, 0, none⟩ = some (.int .u64 x660000_1) ∧ w'.cell? ⟨gb659, 1, none⟩ = some (.int .u64 x660001_1)) (ds := []) #[n_,n_,n_,n_,n_,n_,n_,n_,n_] (by kernel_rfl) rfl rfl ⟨c0_ BK654, c1_ BK654, c0_ BK655, c1_ BK655, c0_ BK659, c1_ BK659⟩ (fun hHeld => ?_); refine with_tabW lockgateref03_Mul.tab9 lockgateref03_Mul.bits9 (fun HT_ HW_ => ?_)
    generalize wr.drew = w54 at BK654 BK655 BK656 BK659 HB hHeld ⊢
    refine pq_ 0 41 #[y_,n_,n_,n_,n_,n_,n_,n_,n_] ?_
    refine pq_ 2 43 #[y_,n_,y_,n_,n_,n_,n_,n_,n_] ?_
    refine tq0_ 1 42 #[y_,y_,y_,n_,n_,n_,n_,n_,n_] hHeld ?_
    refine tq0_ 3 44 #[y_,y_,y_,y_,n_,n_,n_,n_,n_] hHeld ?_
    refine pq_ 4 45 #[y_,y_,y_,y_,y_,n_,n_,n_,n_] ?_
    refine tq0_ 6 47 #[y_,y_,y_,y_,y_,n_,y_,n_,n_] hHeld ?_
    refine one_ (i := 5) (N := some 46) #[y_,y_,y_,y_,y_,y_,y_,n_,n_] rfl rfl (one_of HT_.out (by kernel_rfl)) (by decide) (fun K hK => ?_)
    refine goes_ Tryz.func61 (by kernel_rfl) rfl #[.int .u64 (IntKind.u64.wrap (a0_0 * a1_0))] (by rfl) rfl rfl mp_ ?_
    with_reducible refine (lockgateref03_Of.calls (IntKind.u64.wrap (a0_0 * a1_0)) t660 t661 _ A52.out).mono ?_
    rintro e w55 ⟨rfl, hb⟩
    refine ⟨_, rfl, ?_⟩
    replace BK654 := bb_ hb BK654
    replace BK655 := bb_ hb BK655
    replace BK656 := bb_ hb BK656
    replace BK659 := bb_ hb BK659
    replace HB := bl_ hb
    try clear hb
    refine hK.out _ _ ⟨c0_ BK654, c1_ BK654, c0_ BK655, c1_ BK655, c0_ BK659, c1_ BK659⟩ (fun hHeld => ?_)
    clear hK K
    refine norm_ (a' := ?_) ?_ ?_
    rotate_left
    ·show Act.put _ (some 46) _ = _
     simp only [Act.put, s1_, s2_, s3_, i64_w, i32_w]
     rfl
    refine one_ (i := 7) (N := some 48) #[y_,y_,y_,y_,y_,y_,y_,y_,n_] rfl rfl (one_of HT_.out (by kernel_rfl)) (by decide) (fun K hK => ?_)
    refine goes_ Tryz.func131 (by kernel_rfl) rfl #[.agg #[.int .u64 t660, .int .u64 t661], .agg #[.int .u64 x660000_1, .int .u64 x660001_1]] (by rfl) rfl rfl mp_ ?_
    with_reducible refine (lockgateref03_Add.calls t660 t661 x660000_1 x660001_1 t662 t663 _ A53.out).mono ?_
    rintro e w56 ⟨rfl, hb⟩
    refine ⟨_, rfl, ?_⟩
    replace BK654 := bb_ hb BK654
    replace BK655 := bb_ hb BK655
    replace BK656 := bb_ hb BK656
    replace BK659 := bb_ hb BK659
    replace HB := bl_ hb
    try clear hb
    refine hK.out _ _ ⟨c0_ BK654, c1_ BK654, c0_ BK655, c1_ BK655, c0_ BK659, c1_ BK659⟩ (fun hHeld => ?_)
    clear hK K
    refine norm_ (a' := ?_) ?_ ?_
    rotate_left
    ·show Act.put _ (some 48) _ = _
     simp only [Act.put, s1_, s2_, s3_, i64_w, i32_w]
     rfl
    refine one_ (i := 8) (N := none) #[y_,y_,y_,y_,y_,y_,y_,y_,y_] rfl rfl (one_of HT_.out (by kernel_rfl)) (by decide) (fun K hK => ?_)
    obtain ⟨hs57, hfs57⟩ := k1_ BK656
    have hns57_0 := NB654_656.out
    have hns57_1 := NB655_656.out
    have hns57_3 := NB659_656.out
    have hms57_0 := NB656_654.out
    have hms57_1 := NB656_655.out
    have hms57_3 := NB656_659.out
    have hs58 := c1_ BK656
    have hfs58 := fz_ BK656 1
    have hns58_0 := NB654_656.out
    have hns58_1 := NB655_656.out
    have hns58_3 := NB659_656.out
    have hms58_0 := NB656_654.out
    have hms58_1 := NB656_655.out
    have hms58_3 := NB656_659.out
    refine skip_ (w1 := ?_) (by rfl) rfl ?_ ?_
    rotate_left
    ·go_simp
     rfl
    refine hK.out _ _ ⟨((cell_far (p := ⟨gb656, _, none⟩) NB654_656.out _).trans (((cell_far (p := ⟨gb656, _, none⟩) NB654_656.out _).trans (hHeld.1)))), ((cell_far (p := ⟨gb656, _, none⟩) NB654_656.out _).trans (((cell_far (p := ⟨gb656, _, none⟩) NB654_656.out _).trans (hHeld.2.1)))), ((cell_far (p := ⟨gb656, _, none⟩) NB655_656.out _).trans (((cell_far (p := ⟨gb656, _, none⟩) NB655_656.out _).trans (hHeld.2.2.1)))), ((cell_far (p := ⟨gb656, _, none⟩) NB655_656.out _).trans (((cell_far (p := ⟨gb656, _, none⟩) NB655_656.out _).trans (hHeld.2.2.2.1)))), ((cell_far (p := ⟨gb656, _, none⟩) NB659_656.out _).trans (((cell_far (p := ⟨gb656, _, none⟩) NB659_656.out _).trans (hHeld.2.2.2.2.1)))), ((cell_far (p := ⟨gb656, _, none⟩) NB659_656.out _).trans (((cell_far (p := ⟨gb656, _, none⟩) NB659_656.out _).trans (hHeld.2.2.2.2.2))))⟩ (fun hHeld => ?_)
    clear hK K
    refine done_ (done_of HT_.out (by kernel_rfl)) ?_
    try go_wp2
    refine bodyPost_ret (results_cell_row rfl _ _ gb656 24 #[.int .u64 t662, .int .u64 t663] (0, 0) _ rfl (by (with_reducible repeat (first | apply bN_ | apply bD_ | apply bA_)); refine blk_put (cs := #[.int .u64 t662, .int .u64 0]) ?_ 1 _ rfl; (with_reducible repeat (first | apply bN_ | apply bD_ | apply bA_)); refine blk_put (cs := #[.int .u64 0, .int .u64 0]) ?_ 0 _ rfl; exact bk_) Tryz.underlying24 rfl (by kernel_rfl)) rfl ?_
    exact ⟨vv_, bz_⟩

/-! ### lockgateref03_Or: function 141 -/
def lockgateref03_Or.f (a0_0 : Int) (a0_1 : Int) (a1_0 : Int) (a1_1 : Int) : Option (Int × Int) := some (Go.bits .or .u64 a0_0 a1_0, Go.bits .andNot .u64 (Go.bits .or .u64 a0_1 a1_1) (Go.bits .or .u64 a0_0 a1_0))
set_option maxHeartbeats 8000000 in
set_option maxRecDepth 100000 in
theorem lockgateref03_Or.calls (a0_0 : Int) (a0_1 : Int) (a1_0 : Int) (a1_1 : Int) (r1 : Int) (r2 : Int) (w : World) (h : lockgateref03_Or.f a0_0 a0_1 a1_0 a1_1 = some (r1, r2)) :
 Calls Tryz.prog 141 #[.agg #[.int .u64 a0_0, .int .u64 a0_1], .agg #[.int .u64 a1_0, .int .u64 a1_1]] w fun e w' => e = .returned (.agg #[.int .u64 r1, .int .u64 r2]) ∧ Below w.heap.size w w' := by
 have hu24 := Tryz.underlying24
 have HB := Aside0.mk (Below.refl w.heap.size w)
 have H : (some (Go.bits .or .u64 a0_0 a1_0, Go.bits .andNot .u64 (Go.bits .or .u64 a0_1 a1_1) (Go.bits .or .u64 a0_0 a1_0))) = some (r1, r2) := h
 clear h
 simp only [Option.some.injEq, Prod.mk.injEq] at H
 obtain ⟨rfl, rfl⟩ := H
 go_enter Tryz.func141, Tryz.ntmps141
 go_wp2_with (first | ((with_reducible refine gate_dst (N := 2) rfl ?_); refine bx_ 2 #[.int .u64 a0_0, .int .u64 a0_1] 24 ?_; intro gb687 hg w3 BK687 hb; have GW687 := bg_ hg; have GE687 := GW687; replace HB := bl_ hb; clear hb hg) | ((with_reducible refine gate_dst (N := 3) rfl ?_); refine bx_ 3 #[.int .u64 a1_0, .int .u64 a1_1] 24 ?_; intro gb688 hg w4 BK688 hb; have GW688 := bg_ hg; have GE688 := GW688; have NB687_688 := bm_ hg BK687; have NB688_687 := bn_ hg BK687; replace BK687 := bb_ hb BK687; replace HB := bl_ hb; clear hb hg) | ((with_reducible refine gate_dst (N := 4) rfl ?_); refine bx_ 4 #[.int .u64 0, .int .u64 0] 24 ?_; intro gb689 hg w5 BK689 hb; have GW689 := bg_ hg; have GE689 := GW689; have NB687_689 := bm_ hg BK687; have NB689_687 := bn_ hg BK687; have NB688_689 := bm_ hg BK688; have NB689_688 := bn_ hg BK688; replace BK687 := bb_ hb BK687; replace BK688 := bb_ hb BK688; replace HB := bl_ hb; clear hb hg; have hnb6 := NB687_688.out; have hnc6 := NB688_687.out; have hnb7 := NB687_689.out; have hnc7 := NB689_687.out; obtain ⟨zc8_0, zc8_1, zf8_0, zf8_1⟩ := k2_ BK687; have hnb9 := NB688_689.out; have hnc9 := NB689_688.out; obtain ⟨zc10_0, zc10_1, zf10_0, zf10_1⟩ := k2_ BK688; obtain ⟨zc11_0, zc11_1, zf11_0, zf11_1⟩ := k2_ BK689))
 refine bodyPost_ret (results_cell_row rfl _ _ gb689 24 #[.int .u64 (Go.bits .or .u64 a0_0 a1_0), .int .u64 (Go.bits .andNot .u64 (Go.bits .or .u64 a0_1 a1_1) (Go.bits .or .u64 a0_0 a1_0))] (0, 0) _ rfl (by (with_reducible repeat (first | apply bN_ | apply bD_ | apply bA_)); refine blk_put (cs := #[.int .u64 (Go.bits .or .u64 a0_0 a1_0), .int .u64 0]) ?_ 1 _ rfl; (with_reducible repeat (first | apply bN_ | apply bD_ | apply bA_)); refine blk_put (cs := #[.int .u64 0, .int .u64 0]) ?_ 0 _ rfl; exact bk_) Tryz.underlying24 rfl (by kernel_rfl)) rfl ?_
 exact ⟨vv_, bz_⟩

/-! ### lockgateref03_And: function 143 -/
def lockgateref03_And.f (a0_0 : Int) (a0_1 : Int) (a1_0 : Int) (a1_1 : Int) : Option (Int × Int) := some (Go.bits .and .u64 a0_0 a1_0, Go.bits .andNot .u64 (Go.bits .and .u64 (Go.bits .or .u64 a0_0 a0_1) (Go.bits .or .u64 a1_0 a1_1)) (Go.bits .and .u64 a0_0 a1_0))
set_option maxHeartbeats 8000000 in
set_option maxRecDepth 100000 in
theorem lockgateref03_And.calls (a0_0 : Int) (a0_1 : Int) (a1_0 : Int) (a1_1 : Int) (r1 : Int) (r2 : Int) (w : World) (h : lockgateref03_And.f a0_0 a0_1 a1_0 a1_1 = some (r1, r2)) :
 Calls Tryz.prog 143 #[.agg #[.int .u64 a0_0, .int .u64 a0_1], .agg #[.int .u64 a1_0, .int .u64 a1_1]] w fun e w' => e = .returned (.agg #[.int .u64 r1, .int .u64 r2]) ∧ Below w.heap.size w w' := by
 have hu24 := Tryz.underlying24
 have HB := Aside0.mk (Below.refl w.heap.size w)
 have H : (some (Go.bits .and .u64 a0_0 a1_0, Go.bits .andNot .u64 (Go.bits .and .u64 (Go.bits .or .u64 a0_0 a0_1) (Go.bits .or .u64 a1_0 a1_1)) (Go.bits .and .u64 a0_0 a1_0))) = some (r1, r2) := h
 clear h
 simp only [Option.some.injEq, Prod.mk.injEq] at H
 obtain ⟨rfl, rfl⟩ := H
 go_enter Tryz.func143, Tryz.ntmps143
 go_wp2_with (first | ((with_reducible refine gate_dst (N := 2) rfl ?_); refine bx_ 2 #[.int .u64 a0_0, .int .u64 a0_1] 24 ?_; intro gb701 hg w3 BK701 hb; have GW701 := bg_ hg; have GE701 := GW701; replace HB := bl_ hb; clear hb hg) | ((with_reducible refine gate_dst (N := 3) rfl ?_); refine bx_ 3 #[.int .u64 a1_0, .int .u64 a1_1] 24 ?_; intro gb702 hg w4 BK702 hb; have GW702 := bg_ hg; have GE702 := GW702; have NB701_702 := bm_ hg BK701; have NB702_701 := bn_ hg BK701; replace BK701 := bb_ hb BK701; replace HB := bl_ hb; clear hb hg) | ((with_reducible refine gate_dst (N := 4) rfl ?_); refine bx_ 4 #[.int .u64 0, .int .u64 0] 24 ?_; intro gb703 hg w5 BK703 hb; have GW703 := bg_ hg; have GE703 := GW703; have NB701_703 := bm_ hg BK701; have NB703_701 := bn_ hg BK701; have NB702_703 := bm_ hg BK702; have NB703_702 := bn_ hg BK702; replace BK701 := bb_ hb BK701; replace BK702 := bb_ hb BK702; replace HB := bl_ hb; clear hb hg; have hnb6 := NB701_702.out; have hnc6 := NB702_701.out; have hnb7 := NB701_703.out; have hnc7 := NB703_701.out; obtain ⟨zc8_0, zc8_1, zf8_0, zf8_1⟩ := k2_ BK701; have hnb9 := NB702_703.out; have hnc9 := NB703_702.out; obtain ⟨zc10_0, zc10_1, zf10_0, zf10_1⟩ := k2_ BK702; obtain ⟨zc11_0, zc11_1, zf11_0, zf11_1⟩ := k2_ BK703))
 refine bodyPost_ret (results_cell_row rfl _ _ gb703 24 #[.int .u64 (Go.bits .and .u64 a0_0 a1_0), .int .u64 (Go.bits .andNot .u64 (Go.bits .and .u64 (Go.bits .or .u64 a0_0 a0_1) (Go.bits .or .u64 a1_0 a1_1)) (Go.bits .and .u64 a0_0 a1_0))] (0, 0) _ rfl (by (with_reducible repeat (first | apply bN_ | apply bD_ | apply bA_)); refine blk_put (cs := #[.int .u64 (Go.bits .and .u64 a0_0 a1_0), .int .u64 0]) ?_ 1 _ rfl; (with_reducible repeat (first | apply bN_ | apply bD_ | apply bA_)); refine blk_put (cs := #[.int .u64 0, .int .u64 0]) ?_ 0 _ rfl; exact bk_) Tryz.underlying24 rfl (by kernel_rfl)) rfl ?_
 exact ⟨vv_, bz_⟩

/-! ### lockgateref03_Xor: function 145 -/
def lockgateref03_Xor.f (a0_0 : Int) (a0_1 : Int) (a1_0 : Int) (a1_1 : Int) : Option (Int × Int) := (lockgateref03_without.f (Go.bits .xor .u64 a0_0 a1_0) (Go.bits .or .u64 a0_1 a1_1)).bind fun bt714 => (some (bt714.1, bt714.2))
set_option maxHeartbeats 8000000 in
set_option maxRecDepth 100000 in
theorem lockgateref03_Xor.calls (a0_0 : Int) (a0_1 : Int) (a1_0 : Int) (a1_1 : Int) (r1 : Int) (r2 : Int) (w : World) (h : lockgateref03_Xor.f a0_0 a0_1 a1_0 a1_1 = some (r1, r2)) :
 Calls Tryz.prog 145 #[.agg #[.int .u64 a0_0, .int .u64 a0_1], .agg #[.int .u64 a1_0, .int .u64 a1_1]] w fun e w' => e = .returned (.agg #[.int .u64 r1, .int .u64 r2]) ∧ Below w.heap.size w w' := by
 have hu24 := Tryz.underlying24
 have HB := Aside0.mk (Below.refl w.heap.size w)
 have H : ((lockgateref03_without.f (Go.bits .xor .u64 a0_0 a1_0) (Go.bits .or .u64 a0_1 a1_1)).bind fun bt714 => (some (bt714.1, bt714.2))) = some (r1, r2) := h
 clear h
 replace H := Option.bind_eq_some_iff.mp H
 obtain ⟨⟨t714, t715⟩, A30, H⟩ := H
 replace H : (some (t714, t715)) = some (r1, r2) := H
 have A3 := Aside0.mk A30
 clear A30
 simp only [Option.some.injEq, Prod.mk.injEq] at H
 obtain ⟨rfl, rfl⟩ := H
 go_enter Tryz.func145, Tryz.ntmps145
 go_wp2_with (first | ((with_reducible refine gate_dst (N := 2) rfl ?_); refine bx_ 2 #[.int .u64 a0_0, .int .u64 a0_1] 24 ?_; intro gb711 hg w4 BK711 hb; have GW711 := bg_ hg; have GE711 := GW711; replace HB := bl_ hb; clear hb hg) | ((with_reducible refine gate_dst (N := 3) rfl ?_); refine bx_ 3 #[.int .u64 a1_0, .int .u64 a1_1] 24 ?_; intro gb712 hg w5 BK712 hb; have GW712 := bg_ hg; have GE712 := GW712; have NB711_712 := bm_ hg BK711; have NB712_711 := bn_ hg BK711; replace BK711 := bb_ hb BK711; replace HB := bl_ hb; clear hb hg) | ((with_reducible refine gate_dst (N := 4) rfl ?_); refine bx_ 4 #[.int .u64 0, .int .u64 0] 24 ?_; intro gb713 hg w6 BK713 hb; have GW713 := bg_ hg; have GE713 := GW713; have NB711_713 := bm_ hg BK711; have NB713_711 := bn_ hg BK711; have NB712_713 := bm_ hg BK712; have NB713_712 := bn_ hg BK712; replace BK711 := bb_ hb BK711; replace BK712 := bb_ hb BK712; replace HB := bl_ hb; clear hb hg; have hnb7 := NB711_712.out; have hnc7 := NB712_711.out; have hnb8 := NB711_713.out; have hnc8 := NB713_711.out; obtain ⟨zc9_0, zc9_1, zf9_0, zf9_1⟩ := k2_ BK711; have hnb10 := NB712_713.out; have hnc10 := NB713_712.out; obtain ⟨zc11_0, zc11_1, zf11_0, zf11_1⟩ := k2_ BK712) | ((with_reducible refine gate_callee (f := 183) rfl ?_); refine gM_ 15 Tryz.func183 (lockgateref03_without.calls (Go.bits .xor .u64 a0_0 a1_0) (Go.bits .or .u64 a0_1 a1_1) t714 t715 _ A3.out) ?_; intro w12 hb; replace BK711 := bb_ hb BK711; replace BK712 := bb_ hb BK712; replace BK713 := bb_ hb BK713; replace HB := bl_ hb; (try clear hb); (try clear hb2); (try clear hk); (try clear hi); obtain ⟨zc13_0, zc13_1, zf13_0, zf13_1⟩ := k2_ BK713))
 refine bodyPost_ret (results_cell_row rfl _ _ gb713 24 #[.int .u64 t714, .int .u64 t715] (0, 0) _ rfl (by (with_reducible repeat (first | apply bN_ | apply bD_ | apply bA_)); refine blk_put (cs := #[.int .u64 t714, .int .u64 0]) ?_ 1 _ rfl; (with_reducible repeat (first | apply bN_ | apply bD_ | apply bA_)); refine blk_put (cs := #[.int .u64 0, .int .u64 0]) ?_ 0 _ rfl; exact bk_) Tryz.underlying24 rfl (by kernel_rfl)) rfl ?_
 exact ⟨vv_, bz_⟩

end Go.Proofs.YtceclodenhgoeaaGreat.PA
