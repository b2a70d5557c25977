-- PRINTED by print.py (a twelfth state) out of the translation. Not trusted: Lean checks it.
import Derived.Test.YtkmnogcahpbdjaaPA0
import Derived.Test.YtkmnogcahpbdjaaPA5
namespace Go.Proofs.Ytkmnogcahpbdjaa.PA
open Go.RowKit Go.Proofs.YtkmnogcahpbdjaaW.PrintWords Go.Proofs.YtkmnogcahpbdjaaW.PrintLast Go.Proofs.YtkmnogcahpbdjaaW.PrintMore
attribute [local go_sem] max2_int min2_int max_two min_two max_three min_three max_four min_four   -- for this text's walks alone
set_option linter.unusedVariables false
set_option linter.unusedSimpArgs false

/-! ### word_Alu: function 47 -/
def word_Alu.j0 : Nat → Int → Bool → Int → Int → Bool → Option (Int × Bool)
  | 0, _, _, _, _, _ => none
  | k + 1, x0, x1, x2, x3, x12 => if x12 = true then (if 0 ≤ (Int.tmod x3 64) then (some (IntKind.u64.wrap (shr .i64 (wrap64 (x2)) (Int.tmod x3 64)), true)) else (none)) else (if x0 = 12 then (if 0 ≤ (Int.tmod x3 32) then (some ((shr .i32 (wrap32 ((x2) % 4294967296)) (Int.tmod x3 32)) % 4294967296, true)) else (none)) else (if x1 = true then ((word_pure_uint64.f x0 x2 x3 64).bind fun bt457 => (some (bt457.1, bt457.2))) else ((word_pure_uint32.f x0 ((x2) % 4294967296) ((x3) % 4294967296) 32).bind fun bt459 => (some (IntKind.u64.wrap (bt459.1), bt459.2)))))
def word_Alu.f (k : Nat) (a0 : Int) (a1 : Bool) (a2 : Int) (a3 : Int) : Option (Int × Bool) := if a0 = 12 then (word_Alu.j0 k a0 a1 a2 a3 a1) else (word_Alu.j0 k a0 a1 a2 a3 false)
theorem word_Alu.mono_l : ∀ k, (∀ y0 y1 y2 y3 y4, LeO (word_Alu.j0 k y0 y1 y2 y3 y4) (word_Alu.j0 (k + 1) y0 y1 y2 y3 y4))
  | 0 => fun _ _ _ _ _ r h => by simp [word_Alu.j0] at h
  | k + 1 => by
    have ih0 := word_Alu.mono_l k
    · intro y0 y1 y2 y3 y4
      unfold word_Alu.j0
      repeat' first
      | (with_reducible exact ih0 _ _ _ _ _)
      | (with_reducible exact LeO.refl _)
      | (with_reducible exact LeO.none _)
      | (with_reducible refine LeO.ite ?_ ?_)
      | (with_reducible refine LeO.bind ?_ (fun _ => ?_))
      | exact ih0 _ _ _ _ _
      | exact LeO.none _
      | refine LeO.ite ?_ ?_
      | refine LeO.bind ?_ (fun _ => ?_)
theorem word_Alu.mono : ∀ a0 a1 a2 a3 k, LeO (word_Alu.f k a0 a1 a2 a3) (word_Alu.f (k + 1) a0 a1 a2 a3) := by
  intro a0 a1 a2 a3 k
  have ih0 := word_Alu.mono_l k
  unfold word_Alu.f
  repeat' first
      | (with_reducible exact ih0 _ _ _ _ _)
      | (with_reducible exact LeO.refl _)
      | (with_reducible exact LeO.none _)
      | (with_reducible refine LeO.ite ?_ ?_)
      | (with_reducible refine LeO.bind ?_ (fun _ => ?_))
      | exact ih0 _ _ _ _ _
      | exact LeO.none _
      | refine LeO.ite ?_ ?_
      | refine LeO.bind ?_ (fun _ => ?_)
set_option maxHeartbeats 8000000 in
set_option maxRecDepth 100000 in
theorem word_Alu.calls (k : Nat) (a0 : Int) (a1 : Bool) (a2 : Int) (a3 : Int) (r1 : Int) (r2 : Bool) (w : World) (h : word_Alu.f k a0 a1 a2 a3 = some (r1, r2)) :
    Calls Try.prog 47 #[.int .i64 a0, .bool a1, .int .u64 a2, .int .u64 a3] w fun e w' => e = .returned (.tuple #[.int .u64 r1, .bool r2]) ∧ Drawn0 w w' := by
  have H : (if a0 = 12 then (word_Alu.j0 k a0 a1 a2 a3 a1) else (word_Alu.j0 k a0 a1 a2 a3 false)) = some (r1, r2) := h
  clear h
  have HC5 := Aside0.mk H
  clear H
  go_enter Try.func47, Try.ntmps47
  go_upto_region 1 with (fail)
  go_cut [12] (fun v12 wc => ∃ (kq : Nat) (x12_4 : Bool), v12 = .bool x12_4 ∧ Aside0 (word_Alu.j0 kq a0 a1 a2 a3 x12_4 = some (r1, r2)) ∧ Aside0 (kq ≤ k) ∧ Drawn0 w wc)
  case first =>
    have H := HC5.out
    clear HC5
    by_cases c6 : a0 = 12
    · rw [if_pos c6] at H
      have c6b0 : (a0 == 12) = true := beq_iff_eq.mpr c6
      have c6b1 : (a0 != 12) = false := bne_eq_false_iff_eq.mpr c6
      clear c6
      (first | rw [c6b0] | (simp only [i64_w, i32_w]; rw [c6b0]) | skip)
      have H' := Aside0.mk H
      clear H
      go_wp2
      go_meet
      case rel => exact ⟨_, (a1), (by first | rfl | (simp; done) | (simp [*]; done)), H', ⟨by first | omega | exact Nat.le_refl _⟩, by repeat (first | exact Drawn0.refl _ | apply Drawn0.step)⟩
    · rw [if_neg c6] at H
      have c6b0 : (a0 == 12) = false := beq_eq_false_iff_ne.mpr c6
      have c6b1 : (a0 != 12) = true := bne_iff_ne.mpr c6
      (first | rw [c6b0] | (simp only [i64_w, i32_w]; rw [c6b0]) | skip)
      have H' := Aside0.mk H
      clear H
      go_wp2
      go_meet
      case rel => exact ⟨_, (false), (by first | rfl | (simp; done) | (simp [*]; done)), H', ⟨by first | omega | exact Nat.le_refl _⟩, by repeat (first | exact Drawn0.refl _ | apply Drawn0.step)⟩
  case rest =>
    clear HC5
    try clear p2
    try clear c4
    try clear c6
    try clear c6b0
    try clear c6b1
    obtain ⟨kq, x12_4, rfl, HA, HJ4, ⟨mc4, rfl⟩⟩ := hcut
    cases kq with
    | zero => exact absurd HA.out (by simp [word_Alu.j0])
    | succ kj4 =>
      have H := HA.out
      clear HA
      simp only [word_Alu.j0] at H
      by_cases c7 : x12_4 = true
      · subst c7
        have H1 : (if 0 ≤ (Int.tmod a3 64) then (some (IntKind.u64.wrap (shr .i64 (wrap64 (a2)) (Int.tmod a3 64)), true)) else (none)) = some (r1, r2) := by rw [if_pos rfl] at H; exact H
        clear H
        have H := H1
        clear H1
        obtain ⟨ji8, hji8⟩ : ∃ j_ : Int, (Int.tmod a3 64) = j_ := ⟨_, rfl⟩
        replace H : (if 0 ≤ (ji8) then (some (IntKind.u64.wrap (shr .i64 (wrap64 (a2)) (ji8)), true)) else (none)) = some (r1, r2) := by first | (rw [hji8] at H; exact H) | (simp only [hji8] at H ⊢; exact H)
        by_cases c9 : 0 ≤ (ji8)
        · rw [if_pos c9] at H
          have c9b0 := eq_true c9
          have c9b1 : decide (0 ≤ (ji8)) = true := decide_eq_true c9
          clear c9
          obtain ⟨ji10, hji10⟩ : ∃ j_ : Int, (shr .i64 (wrap64 (a2)) (ji8)) = j_ := ⟨_, rfl⟩
          replace H : (some (IntKind.u64.wrap (ji10), true)) = some (r1, r2) := by first | (rw [hji10] at H; exact H) | (simp only [hji10] at H ⊢; exact H)
          have hji10_ : ((wrap64 (a2)) / 2 ^ min (ji8).toNat 64) = ji10 := hji10
          have hji10z : (ji8) ≤ 64 → ((wrap64 (a2)) / 2 ^ (ji8).toNat) = ji10 := shr_small hji10
          simp only [Option.some.injEq, Prod.mk.injEq] at H
          obtain ⟨rfl, rfl⟩ := H
          go_wp2
          go_ret2
          exact ⟨by first | rfl | (simp; done) | (simp only [← hji8, ← hji10] <;> (first | rfl | simp)) | (simp [*]; done), by repeat (first | exact Drawn0.refl _ | apply Drawn0.step)⟩
        · rw [if_neg c9] at H
          exact absurd H (by simp)
      · replace c7 := Bool.eq_false_iff.mpr c7
        subst c7
        have H1 : (if a0 = 12 then (if 0 ≤ (Int.tmod a3 32) then (some ((shr .i32 (wrap32 ((a2) % 4294967296)) (Int.tmod a3 32)) % 4294967296, true)) else (none)) else (if a1 = true then ((word_pure_uint64.f a0 a2 a3 64).bind fun bt457 => (some (bt457.1, bt457.2))) else ((word_pure_uint32.f a0 ((a2) % 4294967296) ((a3) % 4294967296) 32).bind fun bt459 => (some (IntKind.u64.wrap (bt459.1), bt459.2))))) = some (r1, r2) := by rw [if_neg (show ¬ (false = true) by decide)] at H; exact H
        clear H
        have H := H1
        clear H1
        by_cases c11 : a0 = 12
        · rw [if_pos c11] at H
          have c11b0 : (a0 == 12) = true := beq_iff_eq.mpr c11
          have c11b1 : (a0 != 12) = false := bne_eq_false_iff_eq.mpr c11
          clear c11
          obtain ⟨ji12, hji12⟩ : ∃ j_ : Int, (Int.tmod a3 32) = j_ := ⟨_, rfl⟩
          replace H : (if 0 ≤ (ji12) then (some ((shr .i32 (wrap32 ((a2) % 4294967296)) (ji12)) % 4294967296, true)) else (none)) = some (r1, r2) := by first | (rw [hji12] at H; exact H) | (simp only [hji12] at H ⊢; exact H)
          by_cases c13 : 0 ≤ (ji12)
          · rw [if_pos c13] at H
            have c13b0 := eq_true c13
            have c13b1 : decide (0 ≤ (ji12)) = true := decide_eq_true c13
            clear c13
            obtain ⟨ji14, hji14⟩ : ∃ j_ : Int, (shr .i32 (wrap32 ((a2) % 4294967296)) (ji12)) = j_ := ⟨_, rfl⟩
            replace H : (some ((ji14) % 4294967296, true)) = some (r1, r2) := by first | (rw [hji14] at H; exact H) | (simp only [hji14] at H ⊢; exact H)
            have hji14_ : ((wrap32 ((a2) % 4294967296)) / 2 ^ min (ji12).toNat 32) = ji14 := hji14
            have hji14z : (ji12) ≤ 32 → ((wrap32 ((a2) % 4294967296)) / 2 ^ (ji12).toNat) = ji14 := shr_small hji14
            simp only [Option.some.injEq, Prod.mk.injEq] at H
            obtain ⟨rfl, rfl⟩ := H
            go_wp2
            go_ret2
            exact ⟨by first | rfl | (simp; done) | (simp only [← hji12, ← hji14] <;> (first | rfl | simp)) | (simp [*]; done), by repeat (first | exact Drawn0.refl _ | apply Drawn0.step)⟩
          · rw [if_neg c13] at H
            exact absurd H (by simp)
        · rw [if_neg c11] at H
          have c11b0 : (a0 == 12) = false := beq_eq_false_iff_ne.mpr c11
          have c11b1 : (a0 != 12) = true := bne_iff_ne.mpr c11
          by_cases c15 : a1 = true
          · subst c15
            have H1 : ((word_pure_uint64.f a0 a2 a3 64).bind fun bt457 => (some (bt457.1, bt457.2))) = some (r1, r2) := by rw [if_pos rfl] at H; exact H
            clear H
            have H := H1
            clear H1
            replace H := Option.bind_eq_some_iff.mp H
            obtain ⟨⟨t457, t458⟩, A160, H⟩ := H
            replace H : (some (t457, t458)) = some (r1, r2) := H
            have A16 := Aside0.mk A160
            clear A160
            simp only [Option.some.injEq, Prod.mk.injEq] at H
            obtain ⟨rfl, rfl⟩ := H
            go_wp2_with (first | ((with_reducible refine gate_callee (f := 54) rfl ?_); refine goesL_ (some 40) rfl rfl Try.func54 (by kernel_rfl) rfl #[.int .i64 a0, .int .u64 a2, .int .u64 a3, .int .u64 64] rfl (by (try simp only [List.map_toArray, List.map_cons, List.map_nil]); first | done | rfl | (simp only [List.length_drop, List.length_take]; rfl)) ?_; (with_reducible refine (word_pure_uint64.calls a0 a2 a3 64 t457 t458 _ A16.out).mono ?_); rintro e w' ⟨rfl, ⟨nd, rfl⟩⟩; refine ⟨_, rfl, ?_⟩))
            go_ret2
            exact ⟨by first | rfl | (simp; done) | (simp [*]; done), by repeat (first | exact Drawn0.refl _ | apply Drawn0.step)⟩
          · replace c15 := Bool.eq_false_iff.mpr c15
            subst c15
            have H1 : ((word_pure_uint32.f a0 ((a2) % 4294967296) ((a3) % 4294967296) 32).bind fun bt459 => (some (IntKind.u64.wrap (bt459.1), bt459.2))) = some (r1, r2) := by rw [if_neg (show ¬ (false = true) by decide)] at H; exact H
            clear H
            have H := H1
            clear H1
            replace H := Option.bind_eq_some_iff.mp H
            obtain ⟨⟨t459, t460⟩, A170, H⟩ := H
            replace H : (some (IntKind.u64.wrap (t459), t460)) = some (r1, r2) := H
            have A17 := Aside0.mk A170
            clear A170
            simp only [Option.some.injEq, Prod.mk.injEq] at H
            obtain ⟨rfl, rfl⟩ := H
            go_wp2_with (first | ((with_reducible refine gate_callee (f := 55) rfl ?_); refine goesL_ (some 49) rfl rfl Try.func55 (by kernel_rfl) rfl #[.int .i64 a0, .int .u32 ((a2) % 4294967296), .int .u32 ((a3) % 4294967296), .int .u32 32] rfl (by (try simp only [List.map_toArray, List.map_cons, List.map_nil]); first | done | rfl | (simp only [List.length_drop, List.length_take]; rfl)) ?_; (with_reducible refine (word_pure_uint32.calls a0 ((a2) % 4294967296) ((a3) % 4294967296) 32 t459 t460 _ A17.out).mono ?_); rintro e w' ⟨rfl, ⟨nd, rfl⟩⟩; refine ⟨_, rfl, ?_⟩))
            go_ret2
            exact ⟨by first | rfl | (simp; done) | (simp [*]; done), by repeat (first | exact Drawn0.refl _ | apply Drawn0.step)⟩

end Go.Proofs.Ytkmnogcahpbdjaa.PA
