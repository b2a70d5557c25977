-- PRINTED by print.py (a twelfth state) out of the translation. Not trusted: Lean checks it.
import Derived.Test.YtbionehmfbmcdaaWRepsOne
import Derived.Test.YtbionehmfbmcdaaPA0
import Derived.Test.YtbionehmfbmcdaaPA2
import Derived.Test.YtbionehmfbmcdaaPA3
import Derived.Test.YtbionehmfbmcdaaPA10
namespace Go.Proofs.Ytbionehmfbmcdaa.PA
open Go.RowKit Go.Proofs.YtbionehmfbmcdaaW.PrintWords Go.Proofs.YtbionehmfbmcdaaW.PrintLast Go.Proofs.YtbionehmfbmcdaaW.PrintMore
attribute [local go_sem] max2_int min2_int max_two min_two max_three min_three max_four min_four   -- for this text's walks alone
set_option linter.unusedVariables false
set_option linter.unusedSimpArgs false

/-! ### lockgatelaw01_WordKnown: function 11 -/
mutual
def lockgatelaw01_WordKnown.l0 : Nat → Int → Bool → Int → Bool → Bool → List Int → Int → Option (Bool)
  | 0, _, _, _, _, _, _, _ => none
  | k + 1, x1, x2, x3, x4, x6, x7, x8 => if x8 < (x7.length : Int) then (if 0 ≤ x8 then ((word_Alu.f k (rd x7 x8) true 3 4).bind fun bt276 => (if bt276.2 = true then (some false) else (if bt276.1 = 0 then (lockgatelaw01_WordKnown.l0 k x1 x2 x3 x4 x6 x7 (wrap64 (x8 + 1))) else (some false)))) else (none)) else (lockgatelaw01_WordKnown.l1 k x1 x2 x3 x4 x6 (([(-1), 0, 8, 9, 14] : List Int)) 0)
def lockgatelaw01_WordKnown.l1 : Nat → Int → Bool → Int → Bool → Bool → List Int → Int → Option (Bool)
  | 0, _, _, _, _, _, _, _ => none
  | k + 1, x1, x2, x3, x4, x6, x11, x12 => if x12 < (x11.length : Int) then (if 0 ≤ x12 then ((word_Jump.f k (rd x11 x12) true 3 3).bind fun bt282 => (if bt282.2 = true then (some false) else (if bt282.1 = true then (some false) else (lockgatelaw01_WordKnown.l1 k x1 x2 x3 x4 x6 x11 (wrap64 (x12 + 1)))))) else (none)) else (if x2 = true then (if x4 = true then (if x6 = true then (some false) else (if x1 = 513 then (if x3 = 5 then ((lockgatelaw01_alu.f k 3 true 7 0).bind fun t284 => (if t284 = 0 then ((lockgatelaw01_alu.f k 9 true 7 0).bind fun t285 => (if t285 = 7 then ((lockgatelaw01_alu.f k 12 false 2147483648 33).bind fun t286 => (if t286 = 3221225472 then ((lockgatelaw01_jump.f k 6 false 0 2147483648).bind fun t287 => (if t287 = true then ((lockgatelaw01_jump.f k 2 false 0 2147483648).bind fun t288 => (if t288 = true then (some false) else ((lockgatelaw01_known.f k).bind fun t289 => (some t289)))) else (some false))) else (some false))) else (some false))) else (some false))) else (some false)) else (some false))) else (some false)) else (some false))
end
def lockgatelaw01_WordKnown.f (k : Nat)  : Option (Bool) := (word_Swap.f k 16 true 258).bind fun bt266 => ((word_Swap.f k 32 false 4294967301).bind fun bt268 => ((word_Swap.f k 8 true 1).bind fun bt270 => (lockgatelaw01_WordKnown.l0 k bt266.1 bt266.2 bt268.1 bt268.2 bt270.2 (([(-1), 13, 14, 1099511627776] : List Int)) 0)))
theorem lockgatelaw01_WordKnown.mono_l : ∀ k, (∀ y0 y1 y2 y3 y4 y5 y6, LeO (lockgatelaw01_WordKnown.l0 k y0 y1 y2 y3 y4 y5 y6) (lockgatelaw01_WordKnown.l0 (k + 1) y0 y1 y2 y3 y4 y5 y6)) ∧ (∀ y0 y1 y2 y3 y4 y5 y6, LeO (lockgatelaw01_WordKnown.l1 k y0 y1 y2 y3 y4 y5 y6) (lockgatelaw01_WordKnown.l1 (k + 1) y0 y1 y2 y3 y4 y5 y6))
  | 0 => ⟨fun _ _ _ _ _ _ _ r h => by simp [lockgatelaw01_WordKnown.l0] at h, fun _ _ _ _ _ _ _ r h => by simp [lockgatelaw01_WordKnown.l1] at h⟩
  | k + 1 => by
    obtain ⟨ih0, ih1⟩ := lockgatelaw01_WordKnown.mono_l k
    refine ⟨?_, ?_⟩
    · intro y0 y1 y2 y3 y4 y5 y6
      unfold lockgatelaw01_WordKnown.l0
      repeat' first
      | (with_reducible exact ih0 _ _ _ _ _ _ _)
      | (with_reducible exact ih1 _ _ _ _ _ _ _)
      | (with_reducible exact lockgatelaw01_alu.mono _ _ _ _ _)
      | (with_reducible exact lockgatelaw01_jump.mono _ _ _ _ _)
      | (with_reducible exact lockgatelaw01_known.mono _)
      | (with_reducible exact word_Alu.mono _ _ _ _ _)
      | (with_reducible exact word_Jump.mono _ _ _ _ _)
      | (with_reducible exact word_Swap.mono _ _ _ _)
      | (with_reducible exact LeO.refl _)
      | (with_reducible exact LeO.none _)
      | (with_reducible refine LeO.ite ?_ ?_)
      | (with_reducible refine LeO.bind ?_ (fun _ => ?_))
      | exact ih0 _ _ _ _ _ _ _
      | exact ih1 _ _ _ _ _ _ _
      | exact lockgatelaw01_alu.mono _ _ _ _ _
      | exact lockgatelaw01_jump.mono _ _ _ _ _
      | exact lockgatelaw01_known.mono _
      | exact word_Alu.mono _ _ _ _ _
      | exact word_Jump.mono _ _ _ _ _
      | exact word_Swap.mono _ _ _ _
      | exact LeO.none _
      | refine LeO.ite ?_ ?_
      | refine LeO.bind ?_ (fun _ => ?_)
    · intro y0 y1 y2 y3 y4 y5 y6
      unfold lockgatelaw01_WordKnown.l1
      repeat' first
      | (with_reducible exact ih0 _ _ _ _ _ _ _)
      | (with_reducible exact ih1 _ _ _ _ _ _ _)
      | (with_reducible exact lockgatelaw01_alu.mono _ _ _ _ _)
      | (with_reducible exact lockgatelaw01_jump.mono _ _ _ _ _)
      | (with_reducible exact lockgatelaw01_known.mono _)
      | (with_reducible exact word_Alu.mono _ _ _ _ _)
      | (with_reducible exact word_Jump.mono _ _ _ _ _)
      | (with_reducible exact word_Swap.mono _ _ _ _)
      | (with_reducible exact LeO.refl _)
      | (with_reducible exact LeO.none _)
      | (with_reducible refine LeO.ite ?_ ?_)
      | (with_reducible refine LeO.bind ?_ (fun _ => ?_))
      | exact ih0 _ _ _ _ _ _ _
      | exact ih1 _ _ _ _ _ _ _
      | exact lockgatelaw01_alu.mono _ _ _ _ _
      | exact lockgatelaw01_jump.mono _ _ _ _ _
      | exact lockgatelaw01_known.mono _
      | exact word_Alu.mono _ _ _ _ _
      | exact word_Jump.mono _ _ _ _ _
      | exact word_Swap.mono _ _ _ _
      | exact LeO.none _
      | refine LeO.ite ?_ ?_
      | refine LeO.bind ?_ (fun _ => ?_)
theorem lockgatelaw01_WordKnown.mono : ∀ k, LeO (lockgatelaw01_WordKnown.f k ) (lockgatelaw01_WordKnown.f (k + 1) ) := by
  intro  k
  obtain ⟨ih0, ih1⟩ := lockgatelaw01_WordKnown.mono_l k
  unfold lockgatelaw01_WordKnown.f
  repeat' first
      | (with_reducible exact ih0 _ _ _ _ _ _ _)
      | (with_reducible exact ih1 _ _ _ _ _ _ _)
      | (with_reducible exact lockgatelaw01_alu.mono _ _ _ _ _)
      | (with_reducible exact lockgatelaw01_jump.mono _ _ _ _ _)
      | (with_reducible exact lockgatelaw01_known.mono _)
      | (with_reducible exact word_Alu.mono _ _ _ _ _)
      | (with_reducible exact word_Jump.mono _ _ _ _ _)
      | (with_reducible exact word_Swap.mono _ _ _ _)
      | (with_reducible exact LeO.refl _)
      | (with_reducible exact LeO.none _)
      | (with_reducible refine LeO.ite ?_ ?_)
      | (with_reducible refine LeO.bind ?_ (fun _ => ?_))
      | exact ih0 _ _ _ _ _ _ _
      | exact ih1 _ _ _ _ _ _ _
      | exact lockgatelaw01_alu.mono _ _ _ _ _
      | exact lockgatelaw01_jump.mono _ _ _ _ _
      | exact lockgatelaw01_known.mono _
      | exact word_Alu.mono _ _ _ _ _
      | exact word_Jump.mono _ _ _ _ _
      | exact word_Swap.mono _ _ _ _
      | exact LeO.none _
      | refine LeO.ite ?_ ?_
      | refine LeO.bind ?_ (fun _ => ?_)
set_option maxHeartbeats 8000000 in
set_option maxRecDepth 100000 in
theorem lockgatelaw01_WordKnown.calls (k : Nat)  (r : Bool) (w : World) (HRT : Aside0 (r = true)) (h : lockgatelaw01_WordKnown.f k  = some r) :
    Calls Try.prog 11 #[] w fun e w' => e = .returned (.bool r) ∧ Below w.heap.size w w' := by
  have HB := Aside0.mk (Below.refl w.heap.size w)
  have H : ((word_Swap.f k 16 true 258).bind fun bt266 => ((word_Swap.f k 32 false 4294967301).bind fun bt268 => ((word_Swap.f k 8 true 1).bind fun bt270 => (lockgatelaw01_WordKnown.l0 k bt266.1 bt266.2 bt268.1 bt268.2 bt270.2 (([(-1), 13, 14, 1099511627776] : List Int)) 0)))) = some r := h
  clear h
  replace H := Option.bind_eq_some_iff.mp H
  obtain ⟨⟨t266, t267⟩, A10, H⟩ := H
  replace H : ((word_Swap.f k 32 false 4294967301).bind fun bt268 => ((word_Swap.f k 8 true 1).bind fun bt270 => (lockgatelaw01_WordKnown.l0 k t266 t267 bt268.1 bt268.2 bt270.2 (([(-1), 13, 14, 1099511627776] : List Int)) 0))) = some r := H
  have A1 := Aside0.mk A10
  clear A10
  replace H := Option.bind_eq_some_iff.mp H
  obtain ⟨⟨t268, t269⟩, A20, H⟩ := H
  replace H : ((word_Swap.f k 8 true 1).bind fun bt270 => (lockgatelaw01_WordKnown.l0 k t266 t267 t268 t269 bt270.2 (([(-1), 13, 14, 1099511627776] : List Int)) 0)) = some r := H
  have A2 := Aside0.mk A20
  clear A20
  replace H := Option.bind_eq_some_iff.mp H
  obtain ⟨⟨t270, t271⟩, A30, H⟩ := H
  replace H : (lockgatelaw01_WordKnown.l0 k t266 t267 t268 t269 t271 (([(-1), 13, 14, 1099511627776] : List Int)) 0) = some r := H
  have A3 := Aside0.mk A30
  clear A30
  obtain ⟨y272, hy272⟩ : ∃ y_ : List Int, y_ = (([(-1), 13, 14, 1099511627776] : List Int)) := ⟨_, rfl⟩
  replace H : (lockgatelaw01_WordKnown.l0 k t266 t267 t268 t269 t271 y272 0) = some r := by first | (rw [hy272]; with_reducible exact H) | (have H2_ := (Option.bind_some _ _).symm.trans H; rw [hy272]; with_reducible exact H2_) | (have H2_ := (Option.bind_some _ _).symm.trans H; with_reducible exact H2_) | with_reducible exact H | (rw [hy272]; exact H) | exact H
  have Ny272 := Aside0.mk hy272
  clear hy272
  have H' := Aside0.mk H
  clear H
  go_enter Try.func11, Try.ntmps11
  go_wp2_with (first | ((with_reducible refine gate_callee (f := 19) rfl ?_); refine goesL_ (some 16) rfl rfl Try.func19 (by kernel_rfl) rfl #[.int .i64 16, .bool true, .int .u64 258] rfl (by (try simp only [List.map_toArray, List.map_cons, List.map_nil]); first | done | rfl | (simp only [List.length_drop, List.length_take]; rfl)) ?_; (with_reducible refine (word_Swap.calls k 16 true 258 t266 t267 _ A1.out).mono ?_); rintro e w' ⟨rfl, ⟨nd, rfl⟩⟩; refine ⟨_, rfl, ?_⟩) | ((with_reducible refine gate_callee (f := 19) rfl ?_); refine goesL_ (some 20) rfl rfl Try.func19 (by kernel_rfl) rfl #[.int .i64 32, .bool false, .int .u64 4294967301] rfl (by (try simp only [List.map_toArray, List.map_cons, List.map_nil]); first | done | rfl | (simp only [List.length_drop, List.length_take]; rfl)) ?_; (with_reducible refine (word_Swap.calls k 32 false 4294967301 t268 t269 _ A2.out).mono ?_); rintro e w' ⟨rfl, ⟨nd, rfl⟩⟩; refine ⟨_, rfl, ?_⟩) | ((with_reducible refine gate_callee (f := 19) rfl ?_); refine goesL_ (some 24) rfl rfl Try.func19 (by kernel_rfl) rfl #[.int .i64 8, .bool true, .int .u64 1] rfl (by (try simp only [List.map_toArray, List.map_cons, List.map_nil]); first | done | rfl | (simp only [List.length_drop, List.length_take]; rfl)) ?_; (with_reducible refine (word_Swap.calls k 8 true 1 t270 t271 _ A3.out).mono ?_); rintro e w' ⟨rfl, ⟨nd, rfl⟩⟩; refine ⟨_, rfl, ?_⟩) | ((with_reducible refine gate_dst (N := 27) rfl ?_); refine Kd.R_lit (Kd.int .i64) _ 3 ?hg (N := 27) ?hd (xs := ([(-1), 13, 14, 1099511627776] : List Int)) (inner := [.int .i64 (-1), .int .i64 13, .int .i64 14, .int .i64 1099511627776]) (ok := fun _ => True) (okp := fun _ => True) ?hr ?hp (fun _ hk => hk) trivial (Below.refl _ _) (Nat.le_refl _) (by simp) ?_; (case hd => rfl); (case hg => rfl); (case hr => first | (go_simp; done) | (go_simp; rfl)); (case hp => exact (Reps.one (show Kd.M (Kd.int .i64) _ _ _ (-1) [.int .i64 (-1)] from rfl) (Reps.one (show Kd.M (Kd.int .i64) _ _ _ 13 [.int .i64 13] from rfl) (Reps.one (show Kd.M (Kd.int .i64) _ _ _ 14 [.int .i64 14] from rfl) (Reps.one (show Kd.M (Kd.int .i64) _ _ _ 1099511627776 [.int .i64 1099511627776] from rfl) (Reps.none _ _)))))); intro v273 w4 ho5 hb hg_ hnew_; clear hg_ hnew_; (first | rw [← Ny272.out] at ho5 | (simp only [Int.reduceToNat] at ho5; rw [← Ny272.out] at ho5)); have n0_ := Aside0.mk (Kd.R_lower ho5 (below_size (by repeat (first | (with_reducible first | exact HB.out | apply below_alloc | apply pw_below_drewN | apply below_drew1) | exact HB.out)))); have n1_ := Aside0.mk (below_step (by repeat (first | (with_reducible first | exact HB.out | apply below_alloc | apply pw_below_drewN | apply below_drew1) | exact HB.out)) hb); clear HB; have HO274 := n0_; have HB := n1_; clear n0_ n1_; clear hb ho5))
  go_loopg [8] k (fun kq v8 w' => ∃ (x8_1 : Int), v8 = .int .i64 x8_1 ∧ Aside0 (lockgatelaw01_WordKnown.l0 kq t266 t267 t268 t269 t271 y272 x8_1 = some r) ∧ Aside0 (kq ≤ k) ∧ Aside0 (Kd.R (Kd.int .i64) 3 w' w.heap.size (fun _ => True) v273 y272) ∧ Aside0 (Below w.heap.size w w'))
  case atStart => exact ⟨(0), (by first | rfl | (simp; done) | (simp [*]; done)), H', ⟨Nat.le_refl _⟩, ⟨by (with_reducible repeat (first | apply Kd.R_alloc | apply Kd.R_drewN | apply Kd.R_drew)); exact HO274.out⟩, ⟨by repeat (first | (with_reducible first | exact HB.out | apply below_alloc | apply pw_below_drewN | apply below_drew1) | exact HB.out)⟩⟩
  case round =>
    clear H'
    try clear c1
    try clear p2
    obtain ⟨x8_1, rfl, HA, HK1, HO_7, HB⟩ := hrel
    cases gk with
    | zero => exact absurd HA.out (by simp [lockgatelaw01_WordKnown.l0])
    | succ k1 =>
      have H := HA.out
      clear HA
      simp only [lockgatelaw01_WordKnown.l0] at H
      by_cases c6 : x8_1 < (y272.length : Int)
      · rw [if_pos c6] at H
        have c6b0 : decide (x8_1 < (y272.length : Int)) = true := decide_eq_true c6
        clear c6
        by_cases c7 : 0 ≤ x8_1
        · rw [if_pos c7] at H
          have c7b0 : decide (0 ≤ x8_1) = true := decide_eq_true c7
          clear c7
          replace H := Option.bind_eq_some_iff.mp H
          obtain ⟨⟨t276, t277⟩, A80, H⟩ := H
          replace H : (if t277 = true then (some false) else (if t276 = 0 then (lockgatelaw01_WordKnown.l0 k1 t266 t267 t268 t269 t271 y272 (wrap64 (x8_1 + 1))) else (some false))) = some r := H
          have A8 := Aside0.mk A80
          clear A80
          by_cases c9 : t277 = true
          · subst c9
            have H1 : (some false) = some r := by rw [if_pos rfl] at H; exact H
            clear H
            have H := H1
            clear H1
            exact absurd ((Option.some.inj H).trans HRT.out) (by decide)
          · replace c9 := Bool.eq_false_iff.mpr c9
            subst c9
            have H1 : (if t276 = 0 then (lockgatelaw01_WordKnown.l0 k1 t266 t267 t268 t269 t271 y272 (wrap64 (x8_1 + 1))) else (some false)) = some r := by rw [if_neg (show ¬ (false = true) by decide)] at H; exact H
            clear H
            have H := H1
            clear H1
            by_cases c10 : t276 = 0
            · rw [if_pos c10] at H
              have c10b0 : (t276 == 0) = true := beq_iff_eq.mpr c10
              have c10b1 : (t276 != 0) = false := bne_eq_false_iff_eq.mpr c10
              clear c10
              have H' := Aside0.mk H
              clear H
              obtain ⟨Ao11, co11, eo11⟩ := Kd.R_slice HO_7.out
              subst eo11
              have p275 : 0 ≤ (x8_1 : Int) := of_decide_eq_true (by first | (with_reducible assumption) | assumption)
              have q275 : x8_1 < (y272.length : Int) := of_decide_eq_true (by first | (with_reducible assumption) | assumption)
              obtain ⟨ad275, e275, hx275_0⟩ := Kd.at_int (Kd.R_reads' HO_7.out).2.2 x8_1 p275 q275
              cases e275
              replace p275 := eq_true p275
              replace q275 := eq_true q275
              go_wp2_with (first | ((with_reducible refine gate_callee (f := 12) rfl ?_); refine goesL_ (some 39) rfl rfl Try.func12 (by kernel_rfl) rfl #[.int .i64 (rd y272 x8_1), .bool true, .int .u64 3, .int .u64 4] rfl (by (try simp only [List.map_toArray, List.map_cons, List.map_nil]); first | done | rfl | (simp only [List.length_drop, List.length_take]; rfl)) ?_; (with_reducible refine (word_Alu.calls k1 (rd y272 x8_1) true 3 4 t276 false _ A8.out).mono ?_); rintro e w' ⟨rfl, ⟨nd, rfl⟩⟩; refine ⟨_, rfl, ?_⟩))
              go_roundg k1
              case measure => have := HK1.out; omega
              case rel => exact ⟨(wrap64 (x8_1 + 1)), (by first | rfl | (simp; done) | (simp [*]; done)), H', ⟨by have := HK1.out; omega⟩, ⟨by (with_reducible repeat (first | apply Kd.R_alloc | apply Kd.R_drewN | apply Kd.R_drew)); exact HO_7.out⟩, ⟨by repeat (first | (with_reducible first | exact HB.out | apply below_alloc | apply pw_below_drewN | apply below_drew1) | exact HB.out)⟩⟩
            · rw [if_neg c10] at H
              have c10b0 : (t276 == 0) = false := beq_eq_false_iff_ne.mpr c10
              have c10b1 : (t276 != 0) = true := bne_iff_ne.mpr c10
              exact absurd ((Option.some.inj H).trans HRT.out) (by decide)
        · rw [if_neg c7] at H
          exact absurd H (by simp)
      · rw [if_neg c6] at H
        have c6b0 : decide (x8_1 < (y272.length : Int)) = false := decide_eq_false c6
        clear c6
        obtain ⟨y278, hy278⟩ : ∃ y_ : List Int, y_ = (([(-1), 0, 8, 9, 14] : List Int)) := ⟨_, rfl⟩
        replace H : (lockgatelaw01_WordKnown.l1 k1 t266 t267 t268 t269 t271 y278 0) = some r := by first | (rw [hy278]; with_reducible exact H) | (have H2_ := (Option.bind_some _ _).symm.trans H; rw [hy278]; with_reducible exact H2_) | (have H2_ := (Option.bind_some _ _).symm.trans H; with_reducible exact H2_) | with_reducible exact H | (rw [hy278]; exact H) | exact H
        have Ny278 := Aside0.mk hy278
        clear hy278
        have H' := Aside0.mk H
        clear H
        obtain ⟨Ao12, co12, eo12⟩ := Kd.R_slice HO_7.out
        subst eo12
        go_wp2_with (first | ((with_reducible refine gate_dst (N := 47) rfl ?_); refine Kd.R_lit (Kd.int .i64) _ 3 ?hg (N := 47) ?hd (xs := ([(-1), 0, 8, 9, 14] : List Int)) (inner := [.int .i64 (-1), .int .i64 0, .int .i64 8, .int .i64 9, .int .i64 14]) (ok := fun _ => True) (okp := fun _ => True) ?hr ?hp (fun _ hk => hk) trivial (Below.refl _ _) (Nat.le_refl _) (by simp) ?_; (case hd => rfl); (case hg => rfl); (case hr => first | (go_simp; done) | (go_simp; rfl)); (case hp => exact (Reps.one (show Kd.M (Kd.int .i64) _ _ _ (-1) [.int .i64 (-1)] from rfl) (Reps.one (show Kd.M (Kd.int .i64) _ _ _ 0 [.int .i64 0] from rfl) (Reps.one (show Kd.M (Kd.int .i64) _ _ _ 8 [.int .i64 8] from rfl) (Reps.one (show Kd.M (Kd.int .i64) _ _ _ 9 [.int .i64 9] from rfl) (Reps.one (show Kd.M (Kd.int .i64) _ _ _ 14 [.int .i64 14] from rfl) (Reps.none _ _))))))); intro v279 w13 ho14 hb hg_ hnew_; clear hg_ hnew_; (first | rw [← Ny278.out] at ho14 | (simp only [Int.reduceToNat] at ho14; rw [← Ny278.out] at ho14)); have n0_ := Aside0.mk (Kd.R_elder' (by (with_reducible repeat (first | apply Kd.R_alloc | apply Kd.R_drewN | apply Kd.R_drew)); exact HO_7.out) (Kd.R_base ho14) hb); have n1_ := Aside0.mk (Kd.R_lower (Kd.R_new' ho14 (Kd.R_lt (by (with_reducible repeat (first | apply Kd.R_alloc | apply Kd.R_drewN | apply Kd.R_drew)); exact HO_7.out))) (below_size (by repeat (first | (with_reducible first | exact HB.out | apply below_alloc | apply pw_below_drewN | apply below_drew1) | exact HB.out)))); have n2_ := Aside0.mk (below_step (by repeat (first | (with_reducible first | exact HB.out | apply below_alloc | apply pw_below_drewN | apply below_drew1) | exact HB.out)) hb); clear HO_7; clear HB; have HO_7 := n0_; have HO280 := n1_; have HB := n2_; clear n0_ n1_ n2_; clear hb ho14))
        go_loopg [12] k1 (fun kq v12 w' => ∃ (x12_2 : Int), v12 = .int .i64 x12_2 ∧ Aside0 (lockgatelaw01_WordKnown.l1 kq t266 t267 t268 t269 t271 y278 x12_2 = some r) ∧ Aside0 (kq ≤ k1) ∧ Aside0 (Kd.R (Kd.int .i64) 3 w' w.heap.size (fun _ => True) v279 y278) ∧ Aside0 (Below w.heap.size w w'))
        case atStart => exact ⟨(0), (by first | rfl | (simp; done) | (simp [*]; done)), H', ⟨Nat.le_refl _⟩, ⟨by (with_reducible repeat (first | apply Kd.R_alloc | apply Kd.R_drewN | apply Kd.R_drew)); exact Kd.R_mono HO280.out (fun _ hk => trivial)⟩, ⟨by repeat (first | (with_reducible first | exact HB.out | apply below_alloc | apply pw_below_drewN | apply below_drew1) | exact HB.out)⟩⟩
        case round =>
          clear H'
          try clear c1
          try clear p2
          try clear q2
          try clear hx2
          try clear c6
          try clear c6b0
          try clear p6
          try clear c7
          try clear c7b0
          try clear c9
          try clear c10
          try clear c10b0
          try clear c10b1
          try clear c11
          try clear c12
          try clear hx275_0
          try clear p2
          try clear p275
          try clear q275
          obtain ⟨x12_2, rfl, HA, HK2, HO_11, HB⟩ := hrel
          cases gk with
          | zero => exact absurd HA.out (by simp [lockgatelaw01_WordKnown.l1])
          | succ k2 =>
            have H := HA.out
            clear HA
            simp only [lockgatelaw01_WordKnown.l1] at H
            by_cases c15 : x12_2 < (y278.length : Int)
            · rw [if_pos c15] at H
              have c15b0 : decide (x12_2 < (y278.length : Int)) = true := decide_eq_true c15
              clear c15
              by_cases c16 : 0 ≤ x12_2
              · rw [if_pos c16] at H
                have c16b0 : decide (0 ≤ x12_2) = true := decide_eq_true c16
                clear c16
                replace H := Option.bind_eq_some_iff.mp H
                obtain ⟨⟨t282, t283⟩, A170, H⟩ := H
                replace H : (if t283 = true then (some false) else (if t282 = true then (some false) else (lockgatelaw01_WordKnown.l1 k2 t266 t267 t268 t269 t271 y278 (wrap64 (x12_2 + 1))))) = some r := H
                have A17 := Aside0.mk A170
                clear A170
                by_cases c18 : t283 = true
                · subst c18
                  have H1 : (some false) = some r := by rw [if_pos rfl] at H; exact H
                  clear H
                  have H := H1
                  clear H1
                  exact absurd ((Option.some.inj H).trans HRT.out) (by decide)
                · replace c18 := Bool.eq_false_iff.mpr c18
                  subst c18
                  have H1 : (if t282 = true then (some false) else (lockgatelaw01_WordKnown.l1 k2 t266 t267 t268 t269 t271 y278 (wrap64 (x12_2 + 1)))) = some r := by rw [if_neg (show ¬ (false = true) by decide)] at H; exact H
                  clear H
                  have H := H1
                  clear H1
                  by_cases c19 : t282 = true
                  · subst c19
                    have H1 : (some false) = some r := by rw [if_pos rfl] at H; exact H
                    clear H
                    have H := H1
                    clear H1
                    exact absurd ((Option.some.inj H).trans HRT.out) (by decide)
                  · replace c19 := Bool.eq_false_iff.mpr c19
                    subst c19
                    have H1 : (lockgatelaw01_WordKnown.l1 k2 t266 t267 t268 t269 t271 y278 (wrap64 (x12_2 + 1))) = some r := by rw [if_neg (show ¬ (false = true) by decide)] at H; exact H
                    clear H
                    have H := H1
                    clear H1
                    have H' := Aside0.mk H
                    clear H
                    obtain ⟨Ao20, co20, eo20⟩ := Kd.R_slice HO_11.out
                    subst eo20
                    have p281 : 0 ≤ (x12_2 : Int) := of_decide_eq_true (by first | (with_reducible assumption) | assumption)
                    have q281 : x12_2 < (y278.length : Int) := of_decide_eq_true (by first | (with_reducible assumption) | assumption)
                    obtain ⟨ad281, e281, hx281_0⟩ := Kd.at_int (Kd.R_reads' HO_11.out).2.2 x12_2 p281 q281
                    cases e281
                    replace p281 := eq_true p281
                    replace q281 := eq_true q281
                    go_wp2_with (first | ((with_reducible refine gate_callee (f := 15) rfl ?_); refine goesL_ (some 59) rfl rfl Try.func15 (by kernel_rfl) rfl #[.int .i64 (rd y278 x12_2), .bool true, .int .u64 3, .int .u64 3] rfl (by (try simp only [List.map_toArray, List.map_cons, List.map_nil]); first | done | rfl | (simp only [List.length_drop, List.length_take]; rfl)) ?_; (with_reducible refine (word_Jump.calls k2 (rd y278 x12_2) true 3 3 false false _ A17.out).mono ?_); rintro e w' ⟨rfl, ⟨nd, rfl⟩⟩; refine ⟨_, rfl, ?_⟩))
                    go_roundg k2
                    case measure => have := HK1.out; have := HK2.out; omega
                    case rel => exact ⟨(wrap64 (x12_2 + 1)), (by first | rfl | (simp; done) | (simp [*]; done)), H', ⟨by have := HK1.out; have := HK2.out; omega⟩, ⟨by (with_reducible repeat (first | apply Kd.R_alloc | apply Kd.R_drewN | apply Kd.R_drew)); exact HO_11.out⟩, ⟨by repeat (first | (with_reducible first | exact HB.out | apply below_alloc | apply pw_below_drewN | apply below_drew1) | exact HB.out)⟩⟩
              · rw [if_neg c16] at H
                exact absurd H (by simp)
            · rw [if_neg c15] at H
              have c15b0 : decide (x12_2 < (y278.length : Int)) = false := decide_eq_false c15
              clear c15
              by_cases c21 : t267 = true
              · subst c21
                have H1 : (if t269 = true then (if t271 = true then (some false) else (if t266 = 513 then (if t268 = 5 then ((lockgatelaw01_alu.f k2 3 true 7 0).bind fun t284 => (if t284 = 0 then ((lockgatelaw01_alu.f k2 9 true 7 0).bind fun t285 => (if t285 = 7 then ((lockgatelaw01_alu.f k2 12 false 2147483648 33).bind fun t286 => (if t286 = 3221225472 then ((lockgatelaw01_jump.f k2 6 false 0 2147483648).bind fun t287 => (if t287 = true then ((lockgatelaw01_jump.f k2 2 false 0 2147483648).bind fun t288 => (if t288 = true then (some false) else ((lockgatelaw01_known.f k2).bind fun t289 => (some t289)))) else (some false))) else (some false))) else (some false))) else (some false))) else (some false)) else (some false))) else (some false)) = some r := by rw [if_pos rfl] at H; exact H
                clear H
                have H := H1
                clear H1
                by_cases c22 : t269 = true
                · subst c22
                  have H1 : (if t271 = true then (some false) else (if t266 = 513 then (if t268 = 5 then ((lockgatelaw01_alu.f k2 3 true 7 0).bind fun t284 => (if t284 = 0 then ((lockgatelaw01_alu.f k2 9 true 7 0).bind fun t285 => (if t285 = 7 then ((lockgatelaw01_alu.f k2 12 false 2147483648 33).bind fun t286 => (if t286 = 3221225472 then ((lockgatelaw01_jump.f k2 6 false 0 2147483648).bind fun t287 => (if t287 = true then ((lockgatelaw01_jump.f k2 2 false 0 2147483648).bind fun t288 => (if t288 = true then (some false) else ((lockgatelaw01_known.f k2).bind fun t289 => (some t289)))) else (some false))) else (some false))) else (some false))) else (some false))) else (some false)) else (some false))) = some r := by rw [if_pos rfl] at H; exact H
                  clear H
                  have H := H1
                  clear H1
                  by_cases c23 : t271 = true
                  · subst c23
                    have H1 : (some false) = some r := by rw [if_pos rfl] at H; exact H
                    clear H
                    have H := H1
                    clear H1
                    exact absurd ((Option.some.inj H).trans HRT.out) (by decide)
                  · replace c23 := Bool.eq_false_iff.mpr c23
                    subst c23
                    have H1 : (if t266 = 513 then (if t268 = 5 then ((lockgatelaw01_alu.f k2 3 true 7 0).bind fun t284 => (if t284 = 0 then ((lockgatelaw01_alu.f k2 9 true 7 0).bind fun t285 => (if t285 = 7 then ((lockgatelaw01_alu.f k2 12 false 2147483648 33).bind fun t286 => (if t286 = 3221225472 then ((lockgatelaw01_jump.f k2 6 false 0 2147483648).bind fun t287 => (if t287 = true then ((lockgatelaw01_jump.f k2 2 false 0 2147483648).bind fun t288 => (if t288 = true then (some false) else ((lockgatelaw01_known.f k2).bind fun t289 => (some t289)))) else (some false))) else (some false))) else (some false))) else (some false))) else (some false)) else (some false)) = some r := by rw [if_neg (show ¬ (false = true) by decide)] at H; exact H
                    clear H
                    have H := H1
                    clear H1
                    by_cases c24 : t266 = 513
                    · rw [if_pos c24] at H
                      have c24b0 : (t266 == 513) = true := beq_iff_eq.mpr c24
                      have c24b1 : (t266 != 513) = false := bne_eq_false_iff_eq.mpr c24
                      clear c24
                      by_cases c25 : t268 = 5
                      · rw [if_pos c25] at H
                        have c25b0 : (t268 == 5) = true := beq_iff_eq.mpr c25
                        have c25b1 : (t268 != 5) = false := bne_eq_false_iff_eq.mpr c25
                        clear c25
                        replace H := Option.bind_eq_some_iff.mp H
                        obtain ⟨t284, A260, H⟩ := H
                        replace H : (if t284 = 0 then ((lockgatelaw01_alu.f k2 9 true 7 0).bind fun t285 => (if t285 = 7 then ((lockgatelaw01_alu.f k2 12 false 2147483648 33).bind fun t286 => (if t286 = 3221225472 then ((lockgatelaw01_jump.f k2 6 false 0 2147483648).bind fun t287 => (if t287 = true then ((lockgatelaw01_jump.f k2 2 false 0 2147483648).bind fun t288 => (if t288 = true then (some false) else ((lockgatelaw01_known.f k2).bind fun t289 => (some t289)))) else (some false))) else (some false))) else (some false))) else (some false)) = some r := H
                        have A26 := Aside0.mk A260
                        clear A260
                        by_cases c27 : t284 = 0
                        · rw [if_pos c27] at H
                          have c27b0 : (t284 == 0) = true := beq_iff_eq.mpr c27
                          have c27b1 : (t284 != 0) = false := bne_eq_false_iff_eq.mpr c27
                          clear c27
                          replace H := Option.bind_eq_some_iff.mp H
                          obtain ⟨t285, A280, H⟩ := H
                          replace H : (if t285 = 7 then ((lockgatelaw01_alu.f k2 12 false 2147483648 33).bind fun t286 => (if t286 = 3221225472 then ((lockgatelaw01_jump.f k2 6 false 0 2147483648).bind fun t287 => (if t287 = true then ((lockgatelaw01_jump.f k2 2 false 0 2147483648).bind fun t288 => (if t288 = true then (some false) else ((lockgatelaw01_known.f k2).bind fun t289 => (some t289)))) else (some false))) else (some false))) else (some false)) = some r := H
                          have A28 := Aside0.mk A280
                          clear A280
                          by_cases c29 : t285 = 7
                          · rw [if_pos c29] at H
                            have c29b0 : (t285 == 7) = true := beq_iff_eq.mpr c29
                            have c29b1 : (t285 != 7) = false := bne_eq_false_iff_eq.mpr c29
                            clear c29
                            replace H := Option.bind_eq_some_iff.mp H
                            obtain ⟨t286, A300, H⟩ := H
                            replace H : (if t286 = 3221225472 then ((lockgatelaw01_jump.f k2 6 false 0 2147483648).bind fun t287 => (if t287 = true then ((lockgatelaw01_jump.f k2 2 false 0 2147483648).bind fun t288 => (if t288 = true then (some false) else ((lockgatelaw01_known.f k2).bind fun t289 => (some t289)))) else (some false))) else (some false)) = some r := H
                            have A30 := Aside0.mk A300
                            clear A300
                            by_cases c31 : t286 = 3221225472
                            · rw [if_pos c31] at H
                              have c31b0 : (t286 == 3221225472) = true := beq_iff_eq.mpr c31
                              have c31b1 : (t286 != 3221225472) = false := bne_eq_false_iff_eq.mpr c31
                              clear c31
                              replace H := Option.bind_eq_some_iff.mp H
                              obtain ⟨t287, A320, H⟩ := H
                              replace H : (if t287 = true then ((lockgatelaw01_jump.f k2 2 false 0 2147483648).bind fun t288 => (if t288 = true then (some false) else ((lockgatelaw01_known.f k2).bind fun t289 => (some t289)))) else (some false)) = some r := H
                              have A32 := Aside0.mk A320
                              clear A320
                              by_cases c33 : t287 = true
                              · subst c33
                                have H1 : ((lockgatelaw01_jump.f k2 2 false 0 2147483648).bind fun t288 => (if t288 = true then (some false) else ((lockgatelaw01_known.f k2).bind fun t289 => (some t289)))) = some r := by rw [if_pos rfl] at H; exact H
                                clear H
                                have H := H1
                                clear H1
                                replace H := Option.bind_eq_some_iff.mp H
                                obtain ⟨t288, A340, H⟩ := H
                                replace H : (if t288 = true then (some false) else ((lockgatelaw01_known.f k2).bind fun t289 => (some t289))) = some r := H
                                have A34 := Aside0.mk A340
                                clear A340
                                by_cases c35 : t288 = true
                                · subst c35
                                  have H1 : (some false) = some r := by rw [if_pos rfl] at H; exact H
                                  clear H
                                  have H := H1
                                  clear H1
                                  exact absurd ((Option.some.inj H).trans HRT.out) (by decide)
                                · replace c35 := Bool.eq_false_iff.mpr c35
                                  subst c35
                                  have H1 : ((lockgatelaw01_known.f k2).bind fun t289 => (some t289)) = some r := by rw [if_neg (show ¬ (false = true) by decide)] at H; exact H
                                  clear H
                                  have H := H1
                                  clear H1
                                  replace H := Option.bind_eq_some_iff.mp H
                                  obtain ⟨t289, A360, H⟩ := H
                                  replace H : (some t289) = some r := H
                                  have A36 := Aside0.mk A360
                                  clear A360
                                  obtain rfl := Option.some.inj H
                                  obtain ⟨Ao37, co37, eo37⟩ := Kd.R_slice HO_11.out
                                  subst eo37
                                  go_wp2_with (first | (go_at_call 17; (with_reducible refine (lockgatelaw01_alu.calls k2 3 true 7 0 t284 _ A26.out).mono ?_); rintro e w' ⟨rfl, ⟨nd, rfl⟩⟩) | (go_at_call 17; (with_reducible refine (lockgatelaw01_alu.calls k2 9 true 7 0 t285 _ A28.out).mono ?_); rintro e w' ⟨rfl, ⟨nd, rfl⟩⟩) | (go_at_call 17; (with_reducible refine (lockgatelaw01_alu.calls k2 12 false 2147483648 33 t286 _ A30.out).mono ?_); rintro e w' ⟨rfl, ⟨nd, rfl⟩⟩) | (go_at_call 18; (with_reducible refine (lockgatelaw01_jump.calls k2 6 false 0 2147483648 true _ A32.out).mono ?_); rintro e w' ⟨rfl, ⟨nd, rfl⟩⟩) | (go_at_call 18; (with_reducible refine (lockgatelaw01_jump.calls k2 2 false 0 2147483648 false _ A34.out).mono ?_); rintro e w' ⟨rfl, ⟨nd, rfl⟩⟩) | (go_at_call 14; (with_reducible refine (lockgatelaw01_known.calls k2  t289 _ A36.out).mono ?_); rintro e w' ⟨rfl, ⟨nd, rfl⟩⟩))
                                  go_ret
                                  exact ⟨by first | rfl | (simp [errW_none, errW_some] <;> rfl) | (simp [*, errW_none, errW_some] <;> rfl), by repeat (first | (with_reducible first | exact HB.out | apply below_alloc | apply pw_below_drewN | apply below_drew1) | exact HB.out)⟩
                              · replace c33 := Bool.eq_false_iff.mpr c33
                                subst c33
                                have H1 : (some false) = some r := by rw [if_neg (show ¬ (false = true) by decide)] at H; exact H
                                clear H
                                have H := H1
                                clear H1
                                exact absurd ((Option.some.inj H).trans HRT.out) (by decide)
                            · rw [if_neg c31] at H
                              have c31b0 : (t286 == 3221225472) = false := beq_eq_false_iff_ne.mpr c31
                              have c31b1 : (t286 != 3221225472) = true := bne_iff_ne.mpr c31
                              exact absurd ((Option.some.inj H).trans HRT.out) (by decide)
                          · rw [if_neg c29] at H
                            have c29b0 : (t285 == 7) = false := beq_eq_false_iff_ne.mpr c29
                            have c29b1 : (t285 != 7) = true := bne_iff_ne.mpr c29
                            exact absurd ((Option.some.inj H).trans HRT.out) (by decide)
                        · rw [if_neg c27] at H
                          have c27b0 : (t284 == 0) = false := beq_eq_false_iff_ne.mpr c27
                          have c27b1 : (t284 != 0) = true := bne_iff_ne.mpr c27
                          exact absurd ((Option.some.inj H).trans HRT.out) (by decide)
                      · rw [if_neg c25] at H
                        have c25b0 : (t268 == 5) = false := beq_eq_false_iff_ne.mpr c25
                        have c25b1 : (t268 != 5) = true := bne_iff_ne.mpr c25
                        exact absurd ((Option.some.inj H).trans HRT.out) (by decide)
                    · rw [if_neg c24] at H
                      have c24b0 : (t266 == 513) = false := beq_eq_false_iff_ne.mpr c24
                      have c24b1 : (t266 != 513) = true := bne_iff_ne.mpr c24
                      exact absurd ((Option.some.inj H).trans HRT.out) (by decide)
                · replace c22 := Bool.eq_false_iff.mpr c22
                  subst c22
                  have H1 : (some false) = some r := by rw [if_neg (show ¬ (false = true) by decide)] at H; exact H
                  clear H
                  have H := H1
                  clear H1
                  exact absurd ((Option.some.inj H).trans HRT.out) (by decide)
              · replace c21 := Bool.eq_false_iff.mpr c21
                subst c21
                have H1 : (some false) = some r := by rw [if_neg (show ¬ (false = true) by decide)] at H; exact H
                clear H
                have H := H1
                clear H1
                exact absurd ((Option.some.inj H).trans HRT.out) (by decide)

end Go.Proofs.Ytbionehmfbmcdaa.PA
