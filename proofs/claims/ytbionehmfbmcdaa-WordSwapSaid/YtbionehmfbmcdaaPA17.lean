-- PRINTED by print.py (a twelfth state) out of the translation. Not trusted: Lean checks it.
import Derived.Test.YtbionehmfbmcdaaPA0
import Derived.Test.YtbionehmfbmcdaaPA3
import Derived.Test.YtbionehmfbmcdaaPA9
import Derived.Test.YtbionehmfbmcdaaPA10
namespace Go.Proofs.Ytbionehmfbmcdaa.PA
open Go.RowKit Go.Proofs.YtbionehmfbmcdaaW.PrintWords Go.Proofs.YtbionehmfbmcdaaW.PrintLast Go.Proofs.YtbionehmfbmcdaaW.PrintMore
attribute [local go_sem] max2_int min2_int max_two min_two max_three min_three max_four min_four   -- for this text's walks alone
set_option linter.unusedVariables false
set_option linter.unusedSimpArgs false

/-! ### lockgatelaw01_WordSwap: function 9 -/
def lockgatelaw01_WordSwap.f (k : Nat) (a0 : Int) (a1 : Bool) (a2 : Int) : Option (Bool) := (word_Swap.f k a0 a1 a2).bind fun bt243 => ((lockgateref01_Swap.f k a0 a1 a2).bind fun bt245 => (if bt243.1 = bt245.1 then (if (bt243.2 == bt245.2) = true then ((lockgatelaw01_known.f k).bind fun t247 => (some t247)) else (some false)) else (some false)))
theorem lockgatelaw01_WordSwap.mono : ∀ a0 a1 a2 k, LeO (lockgatelaw01_WordSwap.f k a0 a1 a2) (lockgatelaw01_WordSwap.f (k + 1) a0 a1 a2) := by
  intro a0 a1 a2 k
  unfold lockgatelaw01_WordSwap.f
  repeat' first
      | (with_reducible exact lockgatelaw01_known.mono _)
      | (with_reducible exact lockgateref01_Swap.mono _ _ _ _)
      | (with_reducible exact word_Swap.mono _ _ _ _)
      | (with_reducible exact LeO.refl _)
      | (with_reducible exact LeO.none _)
      | (with_reducible refine LeO.ite ?_ ?_)
      | (with_reducible refine LeO.bind ?_ (fun _ => ?_))
      | exact lockgatelaw01_known.mono _
      | exact lockgateref01_Swap.mono _ _ _ _
      | exact word_Swap.mono _ _ _ _
      | exact LeO.none _
      | refine LeO.ite ?_ ?_
      | refine LeO.bind ?_ (fun _ => ?_)
set_option maxHeartbeats 8000000 in
set_option maxRecDepth 100000 in
theorem lockgatelaw01_WordSwap.calls (k : Nat) (a0 : Int) (a1 : Bool) (a2 : Int) (r : Bool) (w : World) (HRT : Aside0 (r = true)) (h : lockgatelaw01_WordSwap.f k a0 a1 a2 = some r) :
    Calls Try.prog 9 #[.int .i64 a0, .bool a1, .int .u64 a2] w fun e w' => e = .returned (.bool r) ∧ Drawn0 w w' := by
  have H : ((word_Swap.f k a0 a1 a2).bind fun bt243 => ((lockgateref01_Swap.f k a0 a1 a2).bind fun bt245 => (if bt243.1 = bt245.1 then (if (bt243.2 == bt245.2) = true then ((lockgatelaw01_known.f k).bind fun t247 => (some t247)) else (some false)) else (some false)))) = some r := h
  clear h
  replace H := Option.bind_eq_some_iff.mp H
  obtain ⟨⟨t243, t244⟩, A40, H⟩ := H
  replace H : ((lockgateref01_Swap.f k a0 a1 a2).bind fun bt245 => (if t243 = bt245.1 then (if (t244 == bt245.2) = true then ((lockgatelaw01_known.f k).bind fun t247 => (some t247)) else (some false)) else (some false))) = some r := H
  have A4 := Aside0.mk A40
  clear A40
  replace H := Option.bind_eq_some_iff.mp H
  obtain ⟨⟨t245, t246⟩, A50, H⟩ := H
  replace H : (if t243 = t245 then (if (t244 == t246) = true then ((lockgatelaw01_known.f k).bind fun t247 => (some t247)) else (some false)) else (some false)) = some r := H
  have A5 := Aside0.mk A50
  clear A50
  by_cases c6 : t243 = t245
  · rw [if_pos c6] at H
    have c6b0 : (t243 == t245) = true := beq_iff_eq.mpr c6
    have c6b1 : (t243 != t245) = false := bne_eq_false_iff_eq.mpr c6
    clear c6
    by_cases c7 : (t244 == t246) = true
    · rw [if_pos c7] at H
      have c7b0 : (t244 == t246) = true := c7
      (try (have c7b1 : decide (t244 = t246) = true := by simpa using c7))
      (try (have c7b2 : (t244 == t246) = true := by simpa using c7))
      clear c7
      replace H := Option.bind_eq_some_iff.mp H
      obtain ⟨t247, A80, H⟩ := H
      replace H : (some t247) = some r := H
      have A8 := Aside0.mk A80
      clear A80
      obtain rfl := Option.some.inj H
      go_enter Try.func9, Try.ntmps9
      go_wp2_with (first | ((with_reducible refine gate_callee (f := 19) rfl ?_); refine goesL_ (some 15) rfl rfl Try.func19 (by kernel_rfl) rfl #[.int .i64 a0, .bool a1, .int .u64 a2] rfl (by (try simp only [List.map_toArray, List.map_cons, List.map_nil]); first | done | rfl | (simp only [List.length_drop, List.length_take]; rfl)) ?_; (with_reducible refine (word_Swap.calls k a0 a1 a2 t243 t244 _ A4.out).mono ?_); rintro e w' ⟨rfl, ⟨nd, rfl⟩⟩; refine ⟨_, rfl, ?_⟩) | ((with_reducible refine gate_callee (f := 20) rfl ?_); refine goesL_ (some 22) rfl rfl Try.func20 (by kernel_rfl) rfl #[.int .i64 a0, .bool a1, .int .u64 a2] rfl (by (try simp only [List.map_toArray, List.map_cons, List.map_nil]); first | done | rfl | (simp only [List.length_drop, List.length_take]; rfl)) ?_; (with_reducible refine (lockgateref01_Swap.calls k a0 a1 a2 t245 t246 _ A5.out).mono ?_); rintro e w' ⟨rfl, ⟨nd, rfl⟩⟩; refine ⟨_, rfl, ?_⟩) | (go_at_call 14; (with_reducible refine (lockgatelaw01_known.calls k  t247 _ A8.out).mono ?_); rintro e w' ⟨rfl, ⟨nd, rfl⟩⟩))
      go_ret
      exact ⟨by first | rfl | (simp; done) | (simp [*]; done), by repeat (first | exact Drawn0.refl _ | apply Drawn0.step)⟩
    · rw [if_neg c7] at H
      have c7b0 : (t244 == t246) = false := by simpa using c7
      (try (have c7b1 : decide (t244 = t246) = false := by simpa using c7))
      (try (have c7b2 : (t244 == t246) = false := by simpa using c7))
      (try (have c7b3 : ¬ (t244 = t246) := by simpa using c7))
      clear c7
      exact absurd ((Option.some.inj H).trans HRT.out) (by decide)
  · rw [if_neg c6] at H
    have c6b0 : (t243 == t245) = false := beq_eq_false_iff_ne.mpr c6
    have c6b1 : (t243 != t245) = true := bne_iff_ne.mpr c6
    exact absurd ((Option.some.inj H).trans HRT.out) (by decide)

end Go.Proofs.Ytbionehmfbmcdaa.PA
