-- PRINTED by print.py (a twelfth state) out of the translation. Not trusted: Lean checks it.
import Derived.Test.YtbionehmfbmcdaaPA0
import Derived.Test.YtbionehmfbmcdaaPA2
import Derived.Test.YtbionehmfbmcdaaPA7
import Derived.Test.YtbionehmfbmcdaaPA10
namespace Go.Proofs.Ytbionehmfbmcdaa.PA
open Go.RowKit Go.Proofs.YtbionehmfbmcdaaW.PrintWords Go.Proofs.YtbionehmfbmcdaaW.PrintLast Go.Proofs.YtbionehmfbmcdaaW.PrintMore
attribute [local go_sem] max2_int min2_int max_two min_two max_three min_three max_four min_four   -- for this text's walks alone
set_option linter.unusedVariables false
set_option linter.unusedSimpArgs false

/-! ### lockgatelaw01_WordAlu: function 3 -/
def lockgatelaw01_WordAlu.f (k : Nat) (a0 : Int) (a1 : Bool) (a2 : Int) (a3 : Int) : Option (Bool) := (word_Alu.f k a0 a1 a2 a3).bind fun bt154 => ((lockgateref01_Alu.f k a0 a1 a2 a3).bind fun bt156 => (if bt154.1 = bt156.1 then (if (bt154.2 == bt156.2) = true then ((lockgatelaw01_known.f k).bind fun t158 => (some t158)) else (some false)) else (some false)))
theorem lockgatelaw01_WordAlu.mono : ∀ a0 a1 a2 a3 k, LeO (lockgatelaw01_WordAlu.f k a0 a1 a2 a3) (lockgatelaw01_WordAlu.f (k + 1) a0 a1 a2 a3) := by
  intro a0 a1 a2 a3 k
  unfold lockgatelaw01_WordAlu.f
  repeat' first
      | (with_reducible exact lockgatelaw01_known.mono _)
      | (with_reducible exact lockgateref01_Alu.mono _ _ _ _ _)
      | (with_reducible exact word_Alu.mono _ _ _ _ _)
      | (with_reducible exact LeO.refl _)
      | (with_reducible exact LeO.none _)
      | (with_reducible refine LeO.ite ?_ ?_)
      | (with_reducible refine LeO.bind ?_ (fun _ => ?_))
      | exact lockgatelaw01_known.mono _
      | exact lockgateref01_Alu.mono _ _ _ _ _
      | exact word_Alu.mono _ _ _ _ _
      | exact LeO.none _
      | refine LeO.ite ?_ ?_
      | refine LeO.bind ?_ (fun _ => ?_)
set_option maxHeartbeats 8000000 in
set_option maxRecDepth 100000 in
theorem lockgatelaw01_WordAlu.calls (k : Nat) (a0 : Int) (a1 : Bool) (a2 : Int) (a3 : Int) (r : Bool) (w : World) (HRT : Aside0 (r = true)) (h : lockgatelaw01_WordAlu.f k a0 a1 a2 a3 = some r) :
    Calls Try.prog 3 #[.int .i64 a0, .bool a1, .int .u64 a2, .int .u64 a3] w fun e w' => e = .returned (.bool r) ∧ Drawn0 w w' := by
  have H : ((word_Alu.f k a0 a1 a2 a3).bind fun bt154 => ((lockgateref01_Alu.f k a0 a1 a2 a3).bind fun bt156 => (if bt154.1 = bt156.1 then (if (bt154.2 == bt156.2) = true then ((lockgatelaw01_known.f k).bind fun t158 => (some t158)) else (some false)) else (some false)))) = some r := h
  clear h
  replace H := Option.bind_eq_some_iff.mp H
  obtain ⟨⟨t154, t155⟩, A50, H⟩ := H
  replace H : ((lockgateref01_Alu.f k a0 a1 a2 a3).bind fun bt156 => (if t154 = bt156.1 then (if (t155 == bt156.2) = true then ((lockgatelaw01_known.f k).bind fun t158 => (some t158)) else (some false)) else (some false))) = some r := H
  have A5 := Aside0.mk A50
  clear A50
  replace H := Option.bind_eq_some_iff.mp H
  obtain ⟨⟨t156, t157⟩, A60, H⟩ := H
  replace H : (if t154 = t156 then (if (t155 == t157) = true then ((lockgatelaw01_known.f k).bind fun t158 => (some t158)) else (some false)) else (some false)) = some r := H
  have A6 := Aside0.mk A60
  clear A60
  by_cases c7 : t154 = t156
  · rw [if_pos c7] at H
    have c7b0 : (t154 == t156) = true := beq_iff_eq.mpr c7
    have c7b1 : (t154 != t156) = false := bne_eq_false_iff_eq.mpr c7
    clear c7
    by_cases c8 : (t155 == t157) = true
    · rw [if_pos c8] at H
      have c8b0 : (t155 == t157) = true := c8
      (try (have c8b1 : decide (t155 = t157) = true := by simpa using c8))
      (try (have c8b2 : (t155 == t157) = true := by simpa using c8))
      clear c8
      replace H := Option.bind_eq_some_iff.mp H
      obtain ⟨t158, A90, H⟩ := H
      replace H : (some t158) = some r := H
      have A9 := Aside0.mk A90
      clear A90
      obtain rfl := Option.some.inj H
      go_enter Try.func3, Try.ntmps3
      go_wp2_with (first | ((with_reducible refine gate_callee (f := 12) rfl ?_); refine goesL_ (some 18) rfl rfl Try.func12 (by kernel_rfl) rfl #[.int .i64 a0, .bool a1, .int .u64 a2, .int .u64 a3] rfl (by (try simp only [List.map_toArray, List.map_cons, List.map_nil]); first | done | rfl | (simp only [List.length_drop, List.length_take]; rfl)) ?_; (with_reducible refine (word_Alu.calls k a0 a1 a2 a3 t154 t155 _ A5.out).mono ?_); rintro e w' ⟨rfl, ⟨nd, rfl⟩⟩; refine ⟨_, rfl, ?_⟩) | ((with_reducible refine gate_callee (f := 13) rfl ?_); refine goesL_ (some 26) rfl rfl Try.func13 (by kernel_rfl) rfl #[.int .i64 a0, .bool a1, .int .u64 a2, .int .u64 a3] rfl (by (try simp only [List.map_toArray, List.map_cons, List.map_nil]); first | done | rfl | (simp only [List.length_drop, List.length_take]; rfl)) ?_; (with_reducible refine (lockgateref01_Alu.calls k a0 a1 a2 a3 t156 t157 _ A6.out).mono ?_); rintro e w' ⟨rfl, ⟨nd, rfl⟩⟩; refine ⟨_, rfl, ?_⟩) | (go_at_call 14; (with_reducible refine (lockgatelaw01_known.calls k  t158 _ A9.out).mono ?_); rintro e w' ⟨rfl, ⟨nd, rfl⟩⟩))
      go_ret
      exact ⟨by first | rfl | (simp; done) | (simp [*]; done), by repeat (first | exact Drawn0.refl _ | apply Drawn0.step)⟩
    · rw [if_neg c8] at H
      have c8b0 : (t155 == t157) = false := by simpa using c8
      (try (have c8b1 : decide (t155 = t157) = false := by simpa using c8))
      (try (have c8b2 : (t155 == t157) = false := by simpa using c8))
      (try (have c8b3 : ¬ (t155 = t157) := by simpa using c8))
      clear c8
      exact absurd ((Option.some.inj H).trans HRT.out) (by decide)
  · rw [if_neg c7] at H
    have c7b0 : (t154 == t156) = false := beq_eq_false_iff_ne.mpr c7
    have c7b1 : (t154 != t156) = true := bne_iff_ne.mpr c7
    exact absurd ((Option.some.inj H).trans HRT.out) (by decide)

end Go.Proofs.Ytbionehmfbmcdaa.PA
