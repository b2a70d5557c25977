-- PRINTED by print.py (a twelfth state) out of the translation. Not trusted: Lean checks it.
import Derived.Test.YtbionehmfbmcdaaWRepsOne
import Derived.Test.YtbionehmfbmcdaaPA0
import Derived.Test.YtbionehmfbmcdaaPA3
import Derived.Test.YtbionehmfbmcdaaPA10
namespace Go.Proofs.Ytbionehmfbmcdaa.PA
open Go.RowKit Go.Proofs.YtbionehmfbmcdaaW.PrintWords Go.Proofs.YtbionehmfbmcdaaW.PrintLast Go.Proofs.YtbionehmfbmcdaaW.PrintMore
attribute [local go_sem] max2_int min2_int max_two min_two max_three min_three max_four min_four   -- for this text's walks alone
set_option linter.unusedVariables false
set_option linter.unusedSimpArgs false

/-! ### lockgatelaw01_WordTurns: function 10 -/
def lockgatelaw01_WordTurns.l0 : Nat → Int → List Int → Int → Option (Bool)
  | 0, _, _, _ => none
  | k + 1, x0, x3, x4 => if x4 < 3 then (if 0 ≤ x4 then (if x4 < (x3.length : Int) then ((word_Swap.f k (rd x3 x4) false x0).bind fun bt255 => ((word_Swap.f k (rd x3 x4) true x0).bind fun bt258 => ((word_Swap.f k (rd x3 x4) true bt258.1).bind fun bt261 => (if bt255.2 = true then (if bt258.2 = true then (if bt261.2 = true then (if bt261.1 = bt255.1 then (if (rd x3 x4) < 64 then (if 0 ≤ (IntKind.u64.wrap (rd x3 x4)) then (if (shl .u64 1 (IntKind.u64.wrap (rd x3 x4))) = 0 then (none) else (if bt255.1 = (Int.tmod x0 (shl .u64 1 (IntKind.u64.wrap (rd x3 x4)))) then (if bt258.1 ≥ (shl .u64 1 (IntKind.u64.wrap (rd x3 x4))) then (some false) else (lockgatelaw01_WordTurns.l0 k x0 x3 (wrap64 (x4 + 1)))) else (some false))) else (none)) else (lockgatelaw01_WordTurns.l0 k x0 x3 (wrap64 (x4 + 1)))) else (some false)) else (some false)) else (some false)) else (some false))))) else (none)) else (none)) else ((word_Swap.f k 64 false x0).bind fun bt251 => (if bt251.1 = x0 then ((lockgatelaw01_known.f k).bind fun t253 => (some t253)) else (some false)))
def lockgatelaw01_WordTurns.f (k : Nat) (a0 : Int) : Option (Bool) := lockgatelaw01_WordTurns.l0 k a0 (([16, 32, 64] : List Int)) 0
theorem lockgatelaw01_WordTurns.mono_l : ∀ k, (∀ y0 y1 y2, LeO (lockgatelaw01_WordTurns.l0 k y0 y1 y2) (lockgatelaw01_WordTurns.l0 (k + 1) y0 y1 y2))
  | 0 => fun _ _ _ r h => by simp [lockgatelaw01_WordTurns.l0] at h
  | k + 1 => by
    have ih0 := lockgatelaw01_WordTurns.mono_l k
    · intro y0 y1 y2
      unfold lockgatelaw01_WordTurns.l0
      repeat' first
      | (with_reducible exact ih0 _ _ _)
      | (with_reducible exact lockgatelaw01_known.mono _)
      | (with_reducible exact word_Swap.mono _ _ _ _)
      | (with_reducible exact LeO.refl _)
      | (with_reducible exact LeO.none _)
      | (with_reducible refine LeO.ite ?_ ?_)
      | (with_reducible refine LeO.bind ?_ (fun _ => ?_))
      | exact ih0 _ _ _
      | exact lockgatelaw01_known.mono _
      | exact word_Swap.mono _ _ _ _
      | exact LeO.none _
      | refine LeO.ite ?_ ?_
      | refine LeO.bind ?_ (fun _ => ?_)
theorem lockgatelaw01_WordTurns.mono : ∀ a0 k, LeO (lockgatelaw01_WordTurns.f k a0) (lockgatelaw01_WordTurns.f (k + 1) a0) := by
  intro a0 k
  have ih0 := lockgatelaw01_WordTurns.mono_l k
  unfold lockgatelaw01_WordTurns.f
  repeat' first
      | (with_reducible exact ih0 _ _ _)
      | (with_reducible exact lockgatelaw01_known.mono _)
      | (with_reducible exact word_Swap.mono _ _ _ _)
      | (with_reducible exact LeO.refl _)
      | (with_reducible exact LeO.none _)
      | (with_reducible refine LeO.ite ?_ ?_)
      | (with_reducible refine LeO.bind ?_ (fun _ => ?_))
      | exact ih0 _ _ _
      | exact lockgatelaw01_known.mono _
      | exact word_Swap.mono _ _ _ _
      | exact LeO.none _
      | refine LeO.ite ?_ ?_
      | refine LeO.bind ?_ (fun _ => ?_)
set_option maxHeartbeats 8000000 in
set_option maxRecDepth 100000 in
theorem lockgatelaw01_WordTurns.calls (k : Nat) (a0 : Int) (r : Bool) (w : World) (HRT : Aside0 (r = true)) (h : lockgatelaw01_WordTurns.f k a0 = some r) :
    Calls Try.prog 10 #[.int .u64 a0] w fun e w' => e = .returned (.bool r) ∧ Below w.heap.size w w' := by
  have HB := Aside0.mk (Below.refl w.heap.size w)
  have H : (lockgatelaw01_WordTurns.l0 k a0 (([16, 32, 64] : List Int)) 0) = some r := h
  clear h
  obtain ⟨y248, hy248⟩ : ∃ y_ : List Int, y_ = (([16, 32, 64] : List Int)) := ⟨_, rfl⟩
  replace H : (lockgatelaw01_WordTurns.l0 k a0 y248 0) = some r := by first | (rw [hy248]; with_reducible exact H) | (have H2_ := (Option.bind_some _ _).symm.trans H; rw [hy248]; with_reducible exact H2_) | (have H2_ := (Option.bind_some _ _).symm.trans H; with_reducible exact H2_) | with_reducible exact H | (rw [hy248]; exact H) | exact H
  have Ny248 := Aside0.mk hy248
  clear hy248
  have H' := Aside0.mk H
  clear H
  go_enter Try.func10, Try.ntmps10
  go_wp2_with (first | ((with_reducible refine gate_dst (N := 13) rfl ?_); refine Kd.R_lit (Kd.int .i64) _ 3 ?hg (N := 13) ?hd (xs := ([16, 32, 64] : List Int)) (inner := [.int .i64 16, .int .i64 32, .int .i64 64]) (ok := fun _ => True) (okp := fun _ => True) ?hr ?hp (fun _ hk => hk) trivial (Below.refl _ _) (Nat.le_refl _) (by simp) ?_; (case hd => rfl); (case hg => rfl); (case hr => first | (go_simp; done) | (go_simp; rfl)); (case hp => exact (Reps.one (show Kd.M (Kd.int .i64) _ _ _ 16 [.int .i64 16] from rfl) (Reps.one (show Kd.M (Kd.int .i64) _ _ _ 32 [.int .i64 32] from rfl) (Reps.one (show Kd.M (Kd.int .i64) _ _ _ 64 [.int .i64 64] from rfl) (Reps.none _ _))))); intro v249 w2 ho3 hb hg_ hnew_; clear hg_ hnew_; (first | rw [← Ny248.out] at ho3 | (simp only [Int.reduceToNat] at ho3; rw [← Ny248.out] at ho3)); have n0_ := Aside0.mk (Kd.R_lower ho3 (below_size (by repeat (first | (with_reducible first | exact HB.out | apply below_alloc | apply pw_below_drewN | apply below_drew1) | exact HB.out)))); have n1_ := Aside0.mk (below_step (by repeat (first | (with_reducible first | exact HB.out | apply below_alloc | apply pw_below_drewN | apply below_drew1) | exact HB.out)) hb); clear HB; have HO250 := n0_; have HB := n1_; clear n0_ n1_; clear hb ho3))
  go_loopg [4] k (fun kq v4 w' => ∃ (x4_1 : Int), v4 = .int .i64 x4_1 ∧ Aside0 (lockgatelaw01_WordTurns.l0 kq a0 y248 x4_1 = some r) ∧ Aside0 (kq ≤ k) ∧ Aside0 (Kd.R (Kd.int .i64) 3 w' w.heap.size (fun _ => True) v249 y248) ∧ Aside0 (Below w.heap.size w w'))
  case atStart => exact ⟨(0), (by first | rfl | (simp; done) | (simp [*]; done)), H', ⟨Nat.le_refl _⟩, ⟨by (with_reducible repeat (first | apply Kd.R_alloc | apply Kd.R_drewN | apply Kd.R_drew)); exact HO250.out⟩, ⟨by repeat (first | (with_reducible first | exact HB.out | apply below_alloc | apply pw_below_drewN | apply below_drew1) | exact HB.out)⟩⟩
  case round =>
    clear H'
    try clear c1
    try clear p2
    obtain ⟨x4_1, rfl, HA, HK1, HO_3, HB⟩ := hrel
    cases gk with
    | zero => exact absurd HA.out (by simp [lockgatelaw01_WordTurns.l0])
    | succ k1 =>
      have H := HA.out
      clear HA
      simp only [lockgatelaw01_WordTurns.l0] at H
      by_cases c4 : x4_1 < 3
      · rw [if_pos c4] at H
        have c4b0 : decide (x4_1 < 3) = true := decide_eq_true c4
        clear c4
        by_cases c5 : 0 ≤ x4_1
        · rw [if_pos c5] at H
          have c5b0 : decide (0 ≤ x4_1) = true := decide_eq_true c5
          clear c5
          by_cases c6 : x4_1 < (y248.length : Int)
          · rw [if_pos c6] at H
            have c6b0 : decide (x4_1 < (y248.length : Int)) = true := decide_eq_true c6
            clear c6
            replace H := Option.bind_eq_some_iff.mp H
            obtain ⟨⟨t255, t256⟩, A70, H⟩ := H
            replace H : ((word_Swap.f k1 (rd y248 x4_1) true a0).bind fun bt258 => ((word_Swap.f k1 (rd y248 x4_1) true bt258.1).bind fun bt261 => (if t256 = true then (if bt258.2 = true then (if bt261.2 = true then (if bt261.1 = t255 then (if (rd y248 x4_1) < 64 then (if 0 ≤ (IntKind.u64.wrap (rd y248 x4_1)) then (if (shl .u64 1 (IntKind.u64.wrap (rd y248 x4_1))) = 0 then (none) else (if t255 = (Int.tmod a0 (shl .u64 1 (IntKind.u64.wrap (rd y248 x4_1)))) then (if bt258.1 ≥ (shl .u64 1 (IntKind.u64.wrap (rd y248 x4_1))) then (some false) else (lockgatelaw01_WordTurns.l0 k1 a0 y248 (wrap64 (x4_1 + 1)))) else (some false))) else (none)) else (lockgatelaw01_WordTurns.l0 k1 a0 y248 (wrap64 (x4_1 + 1)))) else (some false)) else (some false)) else (some false)) else (some false)))) = some r := H
            have A7 := Aside0.mk A70
            clear A70
            replace H := Option.bind_eq_some_iff.mp H
            obtain ⟨⟨t258, t259⟩, A80, H⟩ := H
            replace H : ((word_Swap.f k1 (rd y248 x4_1) true t258).bind fun bt261 => (if t256 = true then (if t259 = true then (if bt261.2 = true then (if bt261.1 = t255 then (if (rd y248 x4_1) < 64 then (if 0 ≤ (IntKind.u64.wrap (rd y248 x4_1)) then (if (shl .u64 1 (IntKind.u64.wrap (rd y248 x4_1))) = 0 then (none) else (if t255 = (Int.tmod a0 (shl .u64 1 (IntKind.u64.wrap (rd y248 x4_1)))) then (if t258 ≥ (shl .u64 1 (IntKind.u64.wrap (rd y248 x4_1))) then (some false) else (lockgatelaw01_WordTurns.l0 k1 a0 y248 (wrap64 (x4_1 + 1)))) else (some false))) else (none)) else (lockgatelaw01_WordTurns.l0 k1 a0 y248 (wrap64 (x4_1 + 1)))) else (some false)) else (some false)) else (some false)) else (some false))) = some r := H
            have A8 := Aside0.mk A80
            clear A80
            replace H := Option.bind_eq_some_iff.mp H
            obtain ⟨⟨t261, t262⟩, A90, H⟩ := H
            replace H : (if t256 = true then (if t259 = true then (if t262 = true then (if t261 = t255 then (if (rd y248 x4_1) < 64 then (if 0 ≤ (IntKind.u64.wrap (rd y248 x4_1)) then (if (shl .u64 1 (IntKind.u64.wrap (rd y248 x4_1))) = 0 then (none) else (if t255 = (Int.tmod a0 (shl .u64 1 (IntKind.u64.wrap (rd y248 x4_1)))) then (if t258 ≥ (shl .u64 1 (IntKind.u64.wrap (rd y248 x4_1))) then (some false) else (lockgatelaw01_WordTurns.l0 k1 a0 y248 (wrap64 (x4_1 + 1)))) else (some false))) else (none)) else (lockgatelaw01_WordTurns.l0 k1 a0 y248 (wrap64 (x4_1 + 1)))) else (some false)) else (some false)) else (some false)) else (some false)) = some r := H
            have A9 := Aside0.mk A90
            clear A90
            by_cases c10 : t256 = true
            · subst c10
              have H1 : (if t259 = true then (if t262 = true then (if t261 = t255 then (if (rd y248 x4_1) < 64 then (if 0 ≤ (IntKind.u64.wrap (rd y248 x4_1)) then (if (shl .u64 1 (IntKind.u64.wrap (rd y248 x4_1))) = 0 then (none) else (if t255 = (Int.tmod a0 (shl .u64 1 (IntKind.u64.wrap (rd y248 x4_1)))) then (if t258 ≥ (shl .u64 1 (IntKind.u64.wrap (rd y248 x4_1))) then (some false) else (lockgatelaw01_WordTurns.l0 k1 a0 y248 (wrap64 (x4_1 + 1)))) else (some false))) else (none)) else (lockgatelaw01_WordTurns.l0 k1 a0 y248 (wrap64 (x4_1 + 1)))) else (some false)) else (some false)) else (some false)) = some r := by rw [if_pos rfl] at H; exact H
              clear H
              have H := H1
              clear H1
              by_cases c11 : t259 = true
              · subst c11
                have H1 : (if t262 = true then (if t261 = t255 then (if (rd y248 x4_1) < 64 then (if 0 ≤ (IntKind.u64.wrap (rd y248 x4_1)) then (if (shl .u64 1 (IntKind.u64.wrap (rd y248 x4_1))) = 0 then (none) else (if t255 = (Int.tmod a0 (shl .u64 1 (IntKind.u64.wrap (rd y248 x4_1)))) then (if t258 ≥ (shl .u64 1 (IntKind.u64.wrap (rd y248 x4_1))) then (some false) else (lockgatelaw01_WordTurns.l0 k1 a0 y248 (wrap64 (x4_1 + 1)))) else (some false))) else (none)) else (lockgatelaw01_WordTurns.l0 k1 a0 y248 (wrap64 (x4_1 + 1)))) else (some false)) else (some false)) = some r := by rw [if_pos rfl] at H; exact H
                clear H
                have H := H1
                clear H1
                by_cases c12 : t262 = true
                · subst c12
                  have H1 : (if t261 = t255 then (if (rd y248 x4_1) < 64 then (if 0 ≤ (IntKind.u64.wrap (rd y248 x4_1)) then (if (shl .u64 1 (IntKind.u64.wrap (rd y248 x4_1))) = 0 then (none) else (if t255 = (Int.tmod a0 (shl .u64 1 (IntKind.u64.wrap (rd y248 x4_1)))) then (if t258 ≥ (shl .u64 1 (IntKind.u64.wrap (rd y248 x4_1))) then (some false) else (lockgatelaw01_WordTurns.l0 k1 a0 y248 (wrap64 (x4_1 + 1)))) else (some false))) else (none)) else (lockgatelaw01_WordTurns.l0 k1 a0 y248 (wrap64 (x4_1 + 1)))) else (some false)) = some r := by rw [if_pos rfl] at H; exact H
                  clear H
                  have H := H1
                  clear H1
                  by_cases c13 : t261 = t255
                  · rw [if_pos c13] at H
                    have c13b0 : (t261 == t255) = true := beq_iff_eq.mpr c13
                    have c13b1 : (t261 != t255) = false := bne_eq_false_iff_eq.mpr c13
                    clear c13
                    by_cases c14 : (rd y248 x4_1) < 64
                    · rw [if_pos c14] at H
                      have c14b0 : decide ((rd y248 x4_1) < 64) = true := decide_eq_true c14
                      clear c14
                      obtain ⟨ji15, hji15⟩ : ∃ j_ : Int, (IntKind.u64.wrap (rd y248 x4_1)) = j_ := ⟨_, rfl⟩
                      replace H : (if 0 ≤ (ji15) then (if (shl .u64 1 (ji15)) = 0 then (none) else (if t255 = (Int.tmod a0 (shl .u64 1 (ji15))) then (if t258 ≥ (shl .u64 1 (ji15)) then (some false) else (lockgatelaw01_WordTurns.l0 k1 a0 y248 (wrap64 (x4_1 + 1)))) else (some false))) else (none)) = some r := by first | (rw [hji15] at H; exact H) | (simp only [hji15] at H ⊢; exact H)
                      (try rw [hji15] at A7)
                      (try rw [hji15] at A8)
                      (try rw [hji15] at A9)
                      by_cases c16 : 0 ≤ (ji15)
                      · rw [if_pos c16] at H
                        have c16b0 := eq_true c16
                        have c16b1 : decide (0 ≤ (ji15)) = true := decide_eq_true c16
                        clear c16
                        obtain ⟨ji17, hji17⟩ : ∃ j_ : Int, (shl .u64 1 (ji15)) = j_ := ⟨_, rfl⟩
                        replace H : (if (ji17) = 0 then (none) else (if t255 = (Int.tmod a0 (ji17)) then (if t258 ≥ (ji17) then (some false) else (lockgatelaw01_WordTurns.l0 k1 a0 y248 (wrap64 (x4_1 + 1)))) else (some false))) = some r := by first | (rw [hji17] at H; exact H) | (simp only [hji17] at H ⊢; exact H)
                        (try rw [hji17] at A7)
                        (try rw [hji17] at A8)
                        (try rw [hji17] at A9)
                        have hji17_ : (IntKind.u64.wrap (1 * 2 ^ min (ji15).toNat 64)) = ji17 := hji17
                        have hji17z : (ji15) ≤ 64 → (IntKind.u64.wrap (1 * 2 ^ (ji15).toNat)) = ji17 := shl_small hji17
                        have hji17u : (IntKind.u64.wrap (2 ^ min (ji15).toNat 64)) = ji17 := by have h_ := hji17_; rw [Int.one_mul] at h_; exact h_
                        have hji17v : (ji15) ≤ 64 → (IntKind.u64.wrap (2 ^ (ji15).toNat)) = ji17 := fun hle_ => by have h_ := hji17z hle_; rw [Int.one_mul] at h_; exact h_
                        by_cases c18 : (ji17) = 0
                        · rw [if_pos c18] at H
                          exact absurd H (by simp)
                        · rw [if_neg c18] at H
                          have c18b0 : ((ji17) == 0) = false := beq_eq_false_iff_ne.mpr c18
                          have c18b1 : ((ji17) != 0) = true := bne_iff_ne.mpr c18
                          by_cases c19 : t255 = (Int.tmod a0 (ji17))
                          · rw [if_pos c19] at H
                            have c19b0 : (t255 == (Int.tmod a0 (ji17))) = true := beq_iff_eq.mpr c19
                            have c19b1 : (t255 != (Int.tmod a0 (ji17))) = false := bne_eq_false_iff_eq.mpr c19
                            clear c19
                            have c20b0 := eq_true (of_decide_eq_true (by first | (with_reducible assumption) | assumption) : 0 ≤ (ji15))
                            by_cases c21 : t258 ≥ (ji17)
                            · rw [if_pos c21] at H
                              have c21b0 : decide ((ji17) ≤ t258) = true := decide_eq_true c21
                              clear c21
                              exact absurd ((Option.some.inj H).trans HRT.out) (by decide)
                            · rw [if_neg c21] at H
                              have c21b0 : decide ((ji17) ≤ t258) = false := decide_eq_false c21
                              clear c21
                              have H' := Aside0.mk H
                              clear H
                              obtain ⟨Ao22, co22, eo22⟩ := Kd.R_slice HO_3.out
                              subst eo22
                              have p254 : 0 ≤ (x4_1 : Int) := of_decide_eq_true (by first | (with_reducible assumption) | assumption)
                              have q254 : x4_1 < (y248.length : Int) := of_decide_eq_true (by first | (with_reducible assumption) | assumption)
                              obtain ⟨ad254, e254, hx254_0⟩ := Kd.at_int (Kd.R_reads' HO_3.out).2.2 x4_1 p254 q254
                              cases e254
                              replace p254 := eq_true p254
                              replace q254 := eq_true q254
                              go_wp2_with (first | ((with_reducible refine gate_callee (f := 19) rfl ?_); refine goesL_ (some 24) rfl rfl Try.func19 (by kernel_rfl) rfl #[.int .i64 (rd y248 x4_1), .bool false, .int .u64 a0] rfl (by (try simp only [List.map_toArray, List.map_cons, List.map_nil]); first | done | rfl | (simp only [List.length_drop, List.length_take]; rfl)) ?_; (with_reducible refine (word_Swap.calls k1 (rd y248 x4_1) false a0 t255 true _ A7.out).mono ?_); rintro e w' ⟨rfl, ⟨nd, rfl⟩⟩; refine ⟨_, rfl, ?_⟩; have p257 : 0 ≤ (x4_1 : Int) := of_decide_eq_true (by first | (with_reducible assumption) | assumption); have q257 : x4_1 < (y248.length : Int) := of_decide_eq_true (by first | (with_reducible assumption) | assumption); obtain ⟨ad257, e257, hx257_0⟩ := Kd.at_int (Kd.R_reads' HO_3.out).2.2 x4_1 p257 q257; obtain rfl : ad254 = ad257 := (by injection e257); replace p257 := eq_true p257; replace q257 := eq_true q257) | ((with_reducible refine gate_callee (f := 19) rfl ?_); refine goesL_ (some 33) rfl rfl Try.func19 (by kernel_rfl) rfl #[.int .i64 (rd y248 x4_1), .bool true, .int .u64 a0] rfl (by (try simp only [List.map_toArray, List.map_cons, List.map_nil]); first | done | rfl | (simp only [List.length_drop, List.length_take]; rfl)) ?_; (with_reducible refine (word_Swap.calls k1 (rd y248 x4_1) true a0 t258 true _ A8.out).mono ?_); rintro e w' ⟨rfl, ⟨nd, rfl⟩⟩; refine ⟨_, rfl, ?_⟩; have p260 : 0 ≤ (x4_1 : Int) := of_decide_eq_true (by first | (with_reducible assumption) | assumption); have q260 : x4_1 < (y248.length : Int) := of_decide_eq_true (by first | (with_reducible assumption) | assumption); obtain ⟨ad260, e260, hx260_0⟩ := Kd.at_int (Kd.R_reads' HO_3.out).2.2 x4_1 p260 q260; obtain rfl : ad254 = ad260 := (by injection e260); replace p260 := eq_true p260; replace q260 := eq_true q260) | ((with_reducible refine gate_callee (f := 19) rfl ?_); refine goesL_ (some 42) rfl rfl Try.func19 (by kernel_rfl) rfl #[.int .i64 (rd y248 x4_1), .bool true, .int .u64 t258] rfl (by (try simp only [List.map_toArray, List.map_cons, List.map_nil]); first | done | rfl | (simp only [List.length_drop, List.length_take]; rfl)) ?_; (with_reducible refine (word_Swap.calls k1 (rd y248 x4_1) true t258 t261 true _ A9.out).mono ?_); rintro e w' ⟨rfl, ⟨nd, rfl⟩⟩; refine ⟨_, rfl, ?_⟩; have p263 : 0 ≤ (x4_1 : Int) := of_decide_eq_true (by first | (with_reducible assumption) | assumption); have q263 : x4_1 < (y248.length : Int) := of_decide_eq_true (by first | (with_reducible assumption) | assumption); obtain ⟨ad263, e263, hx263_0⟩ := Kd.at_int (Kd.R_reads' HO_3.out).2.2 x4_1 p263 q263; obtain rfl : ad254 = ad263 := (by injection e263); replace p263 := eq_true p263; replace q263 := eq_true q263; have p264 : 0 ≤ (x4_1 : Int) := of_decide_eq_true (by first | (with_reducible assumption) | assumption); have q264 : x4_1 < (y248.length : Int) := of_decide_eq_true (by first | (with_reducible assumption) | assumption); obtain ⟨ad264, e264, hx264_0⟩ := Kd.at_int (Kd.R_reads' HO_3.out).2.2 x4_1 p264 q264; obtain rfl : ad254 = ad264 := (by injection e264); replace p264 := eq_true p264; replace q264 := eq_true q264; have p265 : 0 ≤ (x4_1 : Int) := of_decide_eq_true (by first | (with_reducible assumption) | assumption); have q265 : x4_1 < (y248.length : Int) := of_decide_eq_true (by first | (with_reducible assumption) | assumption); obtain ⟨ad265, e265, hx265_0⟩ := Kd.at_int (Kd.R_reads' HO_3.out).2.2 x4_1 p265 q265; obtain rfl : ad254 = ad265 := (by injection e265); replace p265 := eq_true p265; replace q265 := eq_true q265))
                              go_roundg k1
                              case measure => have := HK1.out; omega
                              case rel => exact ⟨(wrap64 (x4_1 + 1)), (by first | rfl | (simp; done) | (simp [*]; done)), H', ⟨by have := HK1.out; omega⟩, ⟨by (with_reducible repeat (first | apply Kd.R_alloc | apply Kd.R_drewN | apply Kd.R_drew)); exact HO_3.out⟩, ⟨by repeat (first | (with_reducible first | exact HB.out | apply below_alloc | apply pw_below_drewN | apply below_drew1) | exact HB.out)⟩⟩
                          · rw [if_neg c19] at H
                            have c19b0 : (t255 == (Int.tmod a0 (ji17))) = false := beq_eq_false_iff_ne.mpr c19
                            have c19b1 : (t255 != (Int.tmod a0 (ji17))) = true := bne_iff_ne.mpr c19
                            exact absurd ((Option.some.inj H).trans HRT.out) (by decide)
                      · rw [if_neg c16] at H
                        exact absurd H (by simp)
                    · rw [if_neg c14] at H
                      have c14b0 : decide ((rd y248 x4_1) < 64) = false := decide_eq_false c14
                      clear c14
                      have H' := Aside0.mk H
                      clear H
                      obtain ⟨Ao23, co23, eo23⟩ := Kd.R_slice HO_3.out
                      subst eo23
                      have p254 : 0 ≤ (x4_1 : Int) := of_decide_eq_true (by first | (with_reducible assumption) | assumption)
                      have q254 : x4_1 < (y248.length : Int) := of_decide_eq_true (by first | (with_reducible assumption) | assumption)
                      obtain ⟨ad254, e254, hx254_0⟩ := Kd.at_int (Kd.R_reads' HO_3.out).2.2 x4_1 p254 q254
                      cases e254
                      replace p254 := eq_true p254
                      replace q254 := eq_true q254
                      go_wp2_with (first | ((with_reducible refine gate_callee (f := 19) rfl ?_); refine goesL_ (some 24) rfl rfl Try.func19 (by kernel_rfl) rfl #[.int .i64 (rd y248 x4_1), .bool false, .int .u64 a0] rfl (by (try simp only [List.map_toArray, List.map_cons, List.map_nil]); first | done | rfl | (simp only [List.length_drop, List.length_take]; rfl)) ?_; (with_reducible refine (word_Swap.calls k1 (rd y248 x4_1) false a0 t255 true _ A7.out).mono ?_); rintro e w' ⟨rfl, ⟨nd, rfl⟩⟩; refine ⟨_, rfl, ?_⟩; have p257 : 0 ≤ (x4_1 : Int) := of_decide_eq_true (by first | (with_reducible assumption) | assumption); have q257 : x4_1 < (y248.length : Int) := of_decide_eq_true (by first | (with_reducible assumption) | assumption); obtain ⟨ad257, e257, hx257_0⟩ := Kd.at_int (Kd.R_reads' HO_3.out).2.2 x4_1 p257 q257; obtain rfl : ad254 = ad257 := (by injection e257); replace p257 := eq_true p257; replace q257 := eq_true q257) | ((with_reducible refine gate_callee (f := 19) rfl ?_); refine goesL_ (some 33) rfl rfl Try.func19 (by kernel_rfl) rfl #[.int .i64 (rd y248 x4_1), .bool true, .int .u64 a0] rfl (by (try simp only [List.map_toArray, List.map_cons, List.map_nil]); first | done | rfl | (simp only [List.length_drop, List.length_take]; rfl)) ?_; (with_reducible refine (word_Swap.calls k1 (rd y248 x4_1) true a0 t258 true _ A8.out).mono ?_); rintro e w' ⟨rfl, ⟨nd, rfl⟩⟩; refine ⟨_, rfl, ?_⟩; have p260 : 0 ≤ (x4_1 : Int) := of_decide_eq_true (by first | (with_reducible assumption) | assumption); have q260 : x4_1 < (y248.length : Int) := of_decide_eq_true (by first | (with_reducible assumption) | assumption); obtain ⟨ad260, e260, hx260_0⟩ := Kd.at_int (Kd.R_reads' HO_3.out).2.2 x4_1 p260 q260; obtain rfl : ad254 = ad260 := (by injection e260); replace p260 := eq_true p260; replace q260 := eq_true q260) | ((with_reducible refine gate_callee (f := 19) rfl ?_); refine goesL_ (some 42) rfl rfl Try.func19 (by kernel_rfl) rfl #[.int .i64 (rd y248 x4_1), .bool true, .int .u64 t258] rfl (by (try simp only [List.map_toArray, List.map_cons, List.map_nil]); first | done | rfl | (simp only [List.length_drop, List.length_take]; rfl)) ?_; (with_reducible refine (word_Swap.calls k1 (rd y248 x4_1) true t258 t261 true _ A9.out).mono ?_); rintro e w' ⟨rfl, ⟨nd, rfl⟩⟩; refine ⟨_, rfl, ?_⟩; have p263 : 0 ≤ (x4_1 : Int) := of_decide_eq_true (by first | (with_reducible assumption) | assumption); have q263 : x4_1 < (y248.length : Int) := of_decide_eq_true (by first | (with_reducible assumption) | assumption); obtain ⟨ad263, e263, hx263_0⟩ := Kd.at_int (Kd.R_reads' HO_3.out).2.2 x4_1 p263 q263; obtain rfl : ad254 = ad263 := (by injection e263); replace p263 := eq_true p263; replace q263 := eq_true q263))
                      go_roundg k1
                      case measure => have := HK1.out; omega
                      case rel => exact ⟨(wrap64 (x4_1 + 1)), (by first | rfl | (simp; done) | (simp [*]; done)), H', ⟨by have := HK1.out; omega⟩, ⟨by (with_reducible repeat (first | apply Kd.R_alloc | apply Kd.R_drewN | apply Kd.R_drew)); exact HO_3.out⟩, ⟨by repeat (first | (with_reducible first | exact HB.out | apply below_alloc | apply pw_below_drewN | apply below_drew1) | exact HB.out)⟩⟩
                  · rw [if_neg c13] at H
                    have c13b0 : (t261 == t255) = false := beq_eq_false_iff_ne.mpr c13
                    have c13b1 : (t261 != t255) = true := bne_iff_ne.mpr c13
                    exact absurd ((Option.some.inj H).trans HRT.out) (by decide)
                · replace c12 := Bool.eq_false_iff.mpr c12
                  subst c12
                  have H1 : (some false) = some r := by rw [if_neg (show ¬ (false = true) by decide)] at H; exact H
                  clear H
                  have H := H1
                  clear H1
                  exact absurd ((Option.some.inj H).trans HRT.out) (by decide)
              · replace c11 := Bool.eq_false_iff.mpr c11
                subst c11
                have H1 : (some false) = some r := by rw [if_neg (show ¬ (false = true) by decide)] at H; exact H
                clear H
                have H := H1
                clear H1
                exact absurd ((Option.some.inj H).trans HRT.out) (by decide)
            · replace c10 := Bool.eq_false_iff.mpr c10
              subst c10
              have H1 : (some false) = some r := by rw [if_neg (show ¬ (false = true) by decide)] at H; exact H
              clear H
              have H := H1
              clear H1
              exact absurd ((Option.some.inj H).trans HRT.out) (by decide)
          · rw [if_neg c6] at H
            exact absurd H (by simp)
        · rw [if_neg c5] at H
          exact absurd H (by simp)
      · rw [if_neg c4] at H
        have c4b0 : decide (x4_1 < 3) = false := decide_eq_false c4
        clear c4
        replace H := Option.bind_eq_some_iff.mp H
        obtain ⟨⟨t251, t252⟩, A240, H⟩ := H
        replace H : (if t251 = a0 then ((lockgatelaw01_known.f k1).bind fun t253 => (some t253)) else (some false)) = some r := H
        have A24 := Aside0.mk A240
        clear A240
        by_cases c25 : t251 = a0
        · rw [if_pos c25] at H
          have c25b0 : (t251 == a0) = true := beq_iff_eq.mpr c25
          have c25b1 : (t251 != a0) = false := bne_eq_false_iff_eq.mpr c25
          clear c25
          replace H := Option.bind_eq_some_iff.mp H
          obtain ⟨t253, A260, H⟩ := H
          replace H : (some t253) = some r := H
          have A26 := Aside0.mk A260
          clear A260
          obtain rfl := Option.some.inj H
          go_wp2_with (first | ((with_reducible refine gate_callee (f := 19) rfl ?_); refine goesL_ (some 91) rfl rfl Try.func19 (by kernel_rfl) rfl #[.int .i64 64, .bool false, .int .u64 a0] rfl (by (try simp only [List.map_toArray, List.map_cons, List.map_nil]); first | done | rfl | (simp only [List.length_drop, List.length_take]; rfl)) ?_; (with_reducible refine (word_Swap.calls k1 64 false a0 t251 t252 _ A24.out).mono ?_); rintro e w' ⟨rfl, ⟨nd, rfl⟩⟩; refine ⟨_, rfl, ?_⟩) | (go_at_call 14; (with_reducible refine (lockgatelaw01_known.calls k1  t253 _ A26.out).mono ?_); rintro e w' ⟨rfl, ⟨nd, rfl⟩⟩))
          go_ret
          exact ⟨by first | rfl | (simp [errW_none, errW_some] <;> rfl) | (simp [*, errW_none, errW_some] <;> rfl), by repeat (first | (with_reducible first | exact HB.out | apply below_alloc | apply pw_below_drewN | apply below_drew1) | exact HB.out)⟩
        · rw [if_neg c25] at H
          have c25b0 : (t251 == a0) = false := beq_eq_false_iff_ne.mpr c25
          have c25b1 : (t251 != a0) = true := bne_iff_ne.mpr c25
          exact absurd ((Option.some.inj H).trans HRT.out) (by decide)

end Go.Proofs.Ytbionehmfbmcdaa.PA
