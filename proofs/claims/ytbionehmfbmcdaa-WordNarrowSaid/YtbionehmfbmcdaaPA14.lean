-- PRINTED by print.py (a twelfth state) out of the translation. Not trusted: Lean checks it.
import Derived.Test.YtbionehmfbmcdaaPA0
import Derived.Test.YtbionehmfbmcdaaPA2
import Derived.Test.YtbionehmfbmcdaaPA10
namespace Go.Proofs.Ytbionehmfbmcdaa.PA
open Go.RowKit Go.Proofs.YtbionehmfbmcdaaW.PrintWords Go.Proofs.YtbionehmfbmcdaaW.PrintLast Go.Proofs.YtbionehmfbmcdaaW.PrintMore
attribute [local go_sem] max2_int min2_int max_two min_two max_three min_three max_four min_four   -- for this text's walks alone
set_option linter.unusedVariables false
set_option linter.unusedSimpArgs false

/-! ### lockgatelaw01_WordNarrow: function 6 -/
mutual
def lockgatelaw01_WordNarrow.j0 : Nat → Int → Int → Int → Int → Bool → Bool → Bool → Option (Bool)
  | 0, _, _, _, _, _, _, _ => none
  | k + 1, x0, x1, x2, x9, x13, x14, x85 => if x85 = true then (some false) else (if x0 ≥ 0 then (if x0 ≤ 5 then (lockgatelaw01_WordNarrow.j1 k x0 x9 x13 x14 (Int.tmod x1 4294967296) (Int.tmod x2 4294967296) true) else (if x0 = 9 then (lockgatelaw01_WordNarrow.j1 k x0 x9 x13 x14 (Int.tmod x1 4294967296) (Int.tmod x2 4294967296) true) else (if x0 = 10 then (lockgatelaw01_WordNarrow.j1 k x0 x9 x13 x14 (Int.tmod x1 4294967296) (Int.tmod x2 4294967296) true) else (lockgatelaw01_WordNarrow.j1 k x0 x9 x13 x14 (Int.tmod x1 4294967296) (Int.tmod x2 4294967296) (x0 == 11))))) else (if x0 = 9 then (lockgatelaw01_WordNarrow.j1 k x0 x9 x13 x14 (Int.tmod x1 4294967296) (Int.tmod x2 4294967296) true) else (if x0 = 10 then (lockgatelaw01_WordNarrow.j1 k x0 x9 x13 x14 (Int.tmod x1 4294967296) (Int.tmod x2 4294967296) true) else (lockgatelaw01_WordNarrow.j1 k x0 x9 x13 x14 (Int.tmod x1 4294967296) (Int.tmod x2 4294967296) (x0 == 11)))))
def lockgatelaw01_WordNarrow.j1 : Nat → Int → Int → Bool → Bool → Int → Int → Bool → Option (Bool)
  | 0, _, _, _, _, _, _, _ => none
  | k + 1, x0, x9, x13, x14, x17, x18, x107 => if x107 = true then ((lockgatelaw01_alu.f k x0 true x17 x18).bind fun t196 => (if (Int.tmod t196 4294967296) = x9 then ((lockgatelaw01_known.f k).bind fun t197 => (some t197)) else (some false))) else (if x14 = true then (if x0 < 6 then (lockgatelaw01_WordNarrow.j2 k x0 x13 x17 x18 (decide (x0 < 12))) else (if x0 > 7 then (lockgatelaw01_WordNarrow.j2 k x0 x13 x17 x18 (decide (x0 < 12))) else (lockgatelaw01_WordNarrow.j2 k x0 x13 x17 x18 false))) else (lockgatelaw01_WordNarrow.j2 k x0 x13 x17 x18 false))
def lockgatelaw01_WordNarrow.j2 : Nat → Int → Bool → Int → Int → Bool → Option (Bool)
  | 0, _, _, _, _, _ => none
  | k + 1, x0, x13, x17, x18, x131 => if x131 = true then ((lockgatelaw01_jump.f k x0 true x17 x18).bind fun t198 => (if (t198 == x13) = true then ((lockgatelaw01_known.f k).bind fun t199 => (some t199)) else (some false))) else ((lockgatelaw01_known.f k).bind fun t200 => (some t200))
end
def lockgatelaw01_WordNarrow.f (k : Nat) (a0 : Int) (a1 : Int) (a2 : Int) (a3 : Int) : Option (Bool) := (word_Alu.f k a0 false a1 a2).bind fun bt188 => ((word_Alu.f k a0 false (Go.bits .or .u64 (Int.tmod a1 4294967296) (IntKind.u64.wrap (a3 * 4294967296))) (Go.bits .or .u64 (Int.tmod a2 4294967296) (IntKind.u64.wrap (a3 * 4294967296)))).bind fun bt190 => ((word_Jump.f k a0 false a1 a2).bind fun bt192 => ((word_Jump.f k a0 false (Go.bits .or .u64 (Int.tmod a1 4294967296) (IntKind.u64.wrap (a3 * 4294967296))) (Go.bits .or .u64 (Int.tmod a2 4294967296) (IntKind.u64.wrap (a3 * 4294967296)))).bind fun bt194 => (if bt188.1 = bt190.1 then (if (bt188.2 != bt190.2) = true then (lockgatelaw01_WordNarrow.j0 k a0 a1 a2 bt188.1 bt192.1 bt192.2 true) else (if bt188.1 ≥ 4294967296 then (lockgatelaw01_WordNarrow.j0 k a0 a1 a2 bt188.1 bt192.1 bt192.2 true) else (if (bt192.1 != bt194.1) = true then (lockgatelaw01_WordNarrow.j0 k a0 a1 a2 bt188.1 bt192.1 bt192.2 true) else (lockgatelaw01_WordNarrow.j0 k a0 a1 a2 bt188.1 bt192.1 bt192.2 (bt192.2 != bt194.2))))) else (lockgatelaw01_WordNarrow.j0 k a0 a1 a2 bt188.1 bt192.1 bt192.2 true)))))
theorem lockgatelaw01_WordNarrow.mono_l : ∀ k, (∀ y0 y1 y2 y3 y4 y5 y6, LeO (lockgatelaw01_WordNarrow.j0 k y0 y1 y2 y3 y4 y5 y6) (lockgatelaw01_WordNarrow.j0 (k + 1) y0 y1 y2 y3 y4 y5 y6)) ∧ (∀ y0 y1 y2 y3 y4 y5 y6, LeO (lockgatelaw01_WordNarrow.j1 k y0 y1 y2 y3 y4 y5 y6) (lockgatelaw01_WordNarrow.j1 (k + 1) y0 y1 y2 y3 y4 y5 y6)) ∧ (∀ y0 y1 y2 y3 y4, LeO (lockgatelaw01_WordNarrow.j2 k y0 y1 y2 y3 y4) (lockgatelaw01_WordNarrow.j2 (k + 1) y0 y1 y2 y3 y4))
  | 0 => ⟨fun _ _ _ _ _ _ _ r h => by simp [lockgatelaw01_WordNarrow.j0] at h, fun _ _ _ _ _ _ _ r h => by simp [lockgatelaw01_WordNarrow.j1] at h, fun _ _ _ _ _ r h => by simp [lockgatelaw01_WordNarrow.j2] at h⟩
  | k + 1 => by
    obtain ⟨ih0, ih1, ih2⟩ := lockgatelaw01_WordNarrow.mono_l k
    refine ⟨?_, ?_, ?_⟩
    · intro y0 y1 y2 y3 y4 y5 y6
      unfold lockgatelaw01_WordNarrow.j0
      repeat' first
      | (with_reducible exact ih0 _ _ _ _ _ _ _)
      | (with_reducible exact ih1 _ _ _ _ _ _ _)
      | (with_reducible exact ih2 _ _ _ _ _)
      | (with_reducible exact lockgatelaw01_alu.mono _ _ _ _ _)
      | (with_reducible exact lockgatelaw01_jump.mono _ _ _ _ _)
      | (with_reducible exact lockgatelaw01_known.mono _)
      | (with_reducible exact word_Alu.mono _ _ _ _ _)
      | (with_reducible exact word_Jump.mono _ _ _ _ _)
      | (with_reducible exact LeO.refl _)
      | (with_reducible exact LeO.none _)
      | (with_reducible refine LeO.ite ?_ ?_)
      | (with_reducible refine LeO.bind ?_ (fun _ => ?_))
      | exact ih0 _ _ _ _ _ _ _
      | exact ih1 _ _ _ _ _ _ _
      | exact ih2 _ _ _ _ _
      | exact lockgatelaw01_alu.mono _ _ _ _ _
      | exact lockgatelaw01_jump.mono _ _ _ _ _
      | exact lockgatelaw01_known.mono _
      | exact word_Alu.mono _ _ _ _ _
      | exact word_Jump.mono _ _ _ _ _
      | exact LeO.none _
      | refine LeO.ite ?_ ?_
      | refine LeO.bind ?_ (fun _ => ?_)
    · intro y0 y1 y2 y3 y4 y5 y6
      unfold lockgatelaw01_WordNarrow.j1
      repeat' first
      | (with_reducible exact ih0 _ _ _ _ _ _ _)
      | (with_reducible exact ih1 _ _ _ _ _ _ _)
      | (with_reducible exact ih2 _ _ _ _ _)
      | (with_reducible exact lockgatelaw01_alu.mono _ _ _ _ _)
      | (with_reducible exact lockgatelaw01_jump.mono _ _ _ _ _)
      | (with_reducible exact lockgatelaw01_known.mono _)
      | (with_reducible exact word_Alu.mono _ _ _ _ _)
      | (with_reducible exact word_Jump.mono _ _ _ _ _)
      | (with_reducible exact LeO.refl _)
      | (with_reducible exact LeO.none _)
      | (with_reducible refine LeO.ite ?_ ?_)
      | (with_reducible refine LeO.bind ?_ (fun _ => ?_))
      | exact ih0 _ _ _ _ _ _ _
      | exact ih1 _ _ _ _ _ _ _
      | exact ih2 _ _ _ _ _
      | exact lockgatelaw01_alu.mono _ _ _ _ _
      | exact lockgatelaw01_jump.mono _ _ _ _ _
      | exact lockgatelaw01_known.mono _
      | exact word_Alu.mono _ _ _ _ _
      | exact word_Jump.mono _ _ _ _ _
      | exact LeO.none _
      | refine LeO.ite ?_ ?_
      | refine LeO.bind ?_ (fun _ => ?_)
    · intro y0 y1 y2 y3 y4
      unfold lockgatelaw01_WordNarrow.j2
      repeat' first
      | (with_reducible exact ih0 _ _ _ _ _ _ _)
      | (with_reducible exact ih1 _ _ _ _ _ _ _)
      | (with_reducible exact ih2 _ _ _ _ _)
      | (with_reducible exact lockgatelaw01_alu.mono _ _ _ _ _)
      | (with_reducible exact lockgatelaw01_jump.mono _ _ _ _ _)
      | (with_reducible exact lockgatelaw01_known.mono _)
      | (with_reducible exact word_Alu.mono _ _ _ _ _)
      | (with_reducible exact word_Jump.mono _ _ _ _ _)
      | (with_reducible exact LeO.refl _)
      | (with_reducible exact LeO.none _)
      | (with_reducible refine LeO.ite ?_ ?_)
      | (with_reducible refine LeO.bind ?_ (fun _ => ?_))
      | exact ih0 _ _ _ _ _ _ _
      | exact ih1 _ _ _ _ _ _ _
      | exact ih2 _ _ _ _ _
      | exact lockgatelaw01_alu.mono _ _ _ _ _
      | exact lockgatelaw01_jump.mono _ _ _ _ _
      | exact lockgatelaw01_known.mono _
      | exact word_Alu.mono _ _ _ _ _
      | exact word_Jump.mono _ _ _ _ _
      | exact LeO.none _
      | refine LeO.ite ?_ ?_
      | refine LeO.bind ?_ (fun _ => ?_)
theorem lockgatelaw01_WordNarrow.mono : ∀ a0 a1 a2 a3 k, LeO (lockgatelaw01_WordNarrow.f k a0 a1 a2 a3) (lockgatelaw01_WordNarrow.f (k + 1) a0 a1 a2 a3) := by
  intro a0 a1 a2 a3 k
  obtain ⟨ih0, ih1, ih2⟩ := lockgatelaw01_WordNarrow.mono_l k
  unfold lockgatelaw01_WordNarrow.f
  repeat' first
      | (with_reducible exact ih0 _ _ _ _ _ _ _)
      | (with_reducible exact ih1 _ _ _ _ _ _ _)
      | (with_reducible exact ih2 _ _ _ _ _)
      | (with_reducible exact lockgatelaw01_alu.mono _ _ _ _ _)
      | (with_reducible exact lockgatelaw01_jump.mono _ _ _ _ _)
      | (with_reducible exact lockgatelaw01_known.mono _)
      | (with_reducible exact word_Alu.mono _ _ _ _ _)
      | (with_reducible exact word_Jump.mono _ _ _ _ _)
      | (with_reducible exact LeO.refl _)
      | (with_reducible exact LeO.none _)
      | (with_reducible refine LeO.ite ?_ ?_)
      | (with_reducible refine LeO.bind ?_ (fun _ => ?_))
      | exact ih0 _ _ _ _ _ _ _
      | exact ih1 _ _ _ _ _ _ _
      | exact ih2 _ _ _ _ _
      | exact lockgatelaw01_alu.mono _ _ _ _ _
      | exact lockgatelaw01_jump.mono _ _ _ _ _
      | exact lockgatelaw01_known.mono _
      | exact word_Alu.mono _ _ _ _ _
      | exact word_Jump.mono _ _ _ _ _
      | exact LeO.none _
      | refine LeO.ite ?_ ?_
      | refine LeO.bind ?_ (fun _ => ?_)
set_option maxHeartbeats 8000000 in
set_option maxRecDepth 100000 in
theorem lockgatelaw01_WordNarrow.calls (k : Nat) (a0 : Int) (a1 : Int) (a2 : Int) (a3 : Int) (r : Bool) (w : World) (HRT : Aside0 (r = true)) (h : lockgatelaw01_WordNarrow.f k a0 a1 a2 a3 = some r) :
    Calls Try.prog 6 #[.int .i64 a0, .int .u64 a1, .int .u64 a2, .int .u64 a3] w fun e w' => e = .returned (.bool r) ∧ Drawn0 w w' := by
  have H : ((word_Alu.f k a0 false a1 a2).bind fun bt188 => ((word_Alu.f k a0 false (Go.bits .or .u64 (Int.tmod a1 4294967296) (IntKind.u64.wrap (a3 * 4294967296))) (Go.bits .or .u64 (Int.tmod a2 4294967296) (IntKind.u64.wrap (a3 * 4294967296)))).bind fun bt190 => ((word_Jump.f k a0 false a1 a2).bind fun bt192 => ((word_Jump.f k a0 false (Go.bits .or .u64 (Int.tmod a1 4294967296) (IntKind.u64.wrap (a3 * 4294967296))) (Go.bits .or .u64 (Int.tmod a2 4294967296) (IntKind.u64.wrap (a3 * 4294967296)))).bind fun bt194 => (if bt188.1 = bt190.1 then (if (bt188.2 != bt190.2) = true then (lockgatelaw01_WordNarrow.j0 k a0 a1 a2 bt188.1 bt192.1 bt192.2 true) else (if bt188.1 ≥ 4294967296 then (lockgatelaw01_WordNarrow.j0 k a0 a1 a2 bt188.1 bt192.1 bt192.2 true) else (if (bt192.1 != bt194.1) = true then (lockgatelaw01_WordNarrow.j0 k a0 a1 a2 bt188.1 bt192.1 bt192.2 true) else (lockgatelaw01_WordNarrow.j0 k a0 a1 a2 bt188.1 bt192.1 bt192.2 (bt192.2 != bt194.2))))) else (lockgatelaw01_WordNarrow.j0 k a0 a1 a2 bt188.1 bt192.1 bt192.2 true)))))) = some r := h
  clear h
  replace H := Option.bind_eq_some_iff.mp H
  obtain ⟨⟨t188, t189⟩, A50, H⟩ := H
  replace H : ((word_Alu.f k a0 false (Go.bits .or .u64 (Int.tmod a1 4294967296) (IntKind.u64.wrap (a3 * 4294967296))) (Go.bits .or .u64 (Int.tmod a2 4294967296) (IntKind.u64.wrap (a3 * 4294967296)))).bind fun bt190 => ((word_Jump.f k a0 false a1 a2).bind fun bt192 => ((word_Jump.f k a0 false (Go.bits .or .u64 (Int.tmod a1 4294967296) (IntKind.u64.wrap (a3 * 4294967296))) (Go.bits .or .u64 (Int.tmod a2 4294967296) (IntKind.u64.wrap (a3 * 4294967296)))).bind fun bt194 => (if t188 = bt190.1 then (if (t189 != bt190.2) = true then (lockgatelaw01_WordNarrow.j0 k a0 a1 a2 t188 bt192.1 bt192.2 true) else (if t188 ≥ 4294967296 then (lockgatelaw01_WordNarrow.j0 k a0 a1 a2 t188 bt192.1 bt192.2 true) else (if (bt192.1 != bt194.1) = true then (lockgatelaw01_WordNarrow.j0 k a0 a1 a2 t188 bt192.1 bt192.2 true) else (lockgatelaw01_WordNarrow.j0 k a0 a1 a2 t188 bt192.1 bt192.2 (bt192.2 != bt194.2))))) else (lockgatelaw01_WordNarrow.j0 k a0 a1 a2 t188 bt192.1 bt192.2 true))))) = some r := H
  have A5 := Aside0.mk A50
  clear A50
  replace H := Option.bind_eq_some_iff.mp H
  obtain ⟨⟨t190, t191⟩, A60, H⟩ := H
  replace H : ((word_Jump.f k a0 false a1 a2).bind fun bt192 => ((word_Jump.f k a0 false (Go.bits .or .u64 (Int.tmod a1 4294967296) (IntKind.u64.wrap (a3 * 4294967296))) (Go.bits .or .u64 (Int.tmod a2 4294967296) (IntKind.u64.wrap (a3 * 4294967296)))).bind fun bt194 => (if t188 = t190 then (if (t189 != t191) = true then (lockgatelaw01_WordNarrow.j0 k a0 a1 a2 t188 bt192.1 bt192.2 true) else (if t188 ≥ 4294967296 then (lockgatelaw01_WordNarrow.j0 k a0 a1 a2 t188 bt192.1 bt192.2 true) else (if (bt192.1 != bt194.1) = true then (lockgatelaw01_WordNarrow.j0 k a0 a1 a2 t188 bt192.1 bt192.2 true) else (lockgatelaw01_WordNarrow.j0 k a0 a1 a2 t188 bt192.1 bt192.2 (bt192.2 != bt194.2))))) else (lockgatelaw01_WordNarrow.j0 k a0 a1 a2 t188 bt192.1 bt192.2 true)))) = some r := H
  have A6 := Aside0.mk A60
  clear A60
  replace H := Option.bind_eq_some_iff.mp H
  obtain ⟨⟨t192, t193⟩, A70, H⟩ := H
  replace H : ((word_Jump.f k a0 false (Go.bits .or .u64 (Int.tmod a1 4294967296) (IntKind.u64.wrap (a3 * 4294967296))) (Go.bits .or .u64 (Int.tmod a2 4294967296) (IntKind.u64.wrap (a3 * 4294967296)))).bind fun bt194 => (if t188 = t190 then (if (t189 != t191) = true then (lockgatelaw01_WordNarrow.j0 k a0 a1 a2 t188 t192 t193 true) else (if t188 ≥ 4294967296 then (lockgatelaw01_WordNarrow.j0 k a0 a1 a2 t188 t192 t193 true) else (if (t192 != bt194.1) = true then (lockgatelaw01_WordNarrow.j0 k a0 a1 a2 t188 t192 t193 true) else (lockgatelaw01_WordNarrow.j0 k a0 a1 a2 t188 t192 t193 (t193 != bt194.2))))) else (lockgatelaw01_WordNarrow.j0 k a0 a1 a2 t188 t192 t193 true))) = some r := H
  have A7 := Aside0.mk A70
  clear A70
  replace H := Option.bind_eq_some_iff.mp H
  obtain ⟨⟨t194, t195⟩, A80, H⟩ := H
  replace H : (if t188 = t190 then (if (t189 != t191) = true then (lockgatelaw01_WordNarrow.j0 k a0 a1 a2 t188 t192 t193 true) else (if t188 ≥ 4294967296 then (lockgatelaw01_WordNarrow.j0 k a0 a1 a2 t188 t192 t193 true) else (if (t192 != t194) = true then (lockgatelaw01_WordNarrow.j0 k a0 a1 a2 t188 t192 t193 true) else (lockgatelaw01_WordNarrow.j0 k a0 a1 a2 t188 t192 t193 (t193 != t195))))) else (lockgatelaw01_WordNarrow.j0 k a0 a1 a2 t188 t192 t193 true)) = some r := H
  have A8 := Aside0.mk A80
  clear A80
  have HC9 := Aside0.mk H
  clear H
  go_enter Try.func6, Try.ntmps6
  go_upto_region 5 with (first | ((with_reducible refine gate_callee (f := 12) rfl ?_); refine goesL_ (some 24) rfl rfl Try.func12 (by kernel_rfl) rfl #[.int .i64 a0, .bool false, .int .u64 a1, .int .u64 a2] rfl (by (try simp only [List.map_toArray, List.map_cons, List.map_nil]); first | done | rfl | (simp only [List.length_drop, List.length_take]; rfl)) ?_; (with_reducible refine (word_Alu.calls k a0 false a1 a2 t188 t189 _ A5.out).mono ?_); rintro e w' ⟨rfl, ⟨nd, rfl⟩⟩; refine ⟨_, rfl, ?_⟩) | ((with_reducible refine gate_callee (f := 12) rfl ?_); refine goesL_ (some 39) rfl rfl Try.func12 (by kernel_rfl) rfl #[.int .i64 a0, .bool false, .int .u64 (Go.bits .or .u64 (Int.tmod a1 4294967296) (IntKind.u64.wrap (a3 * 4294967296))), .int .u64 (Go.bits .or .u64 (Int.tmod a2 4294967296) (IntKind.u64.wrap (a3 * 4294967296)))] rfl (by (try simp only [List.map_toArray, List.map_cons, List.map_nil]); first | done | rfl | (simp only [List.length_drop, List.length_take]; rfl)) ?_; (with_reducible refine (word_Alu.calls k a0 false (Go.bits .or .u64 (Int.tmod a1 4294967296) (IntKind.u64.wrap (a3 * 4294967296))) (Go.bits .or .u64 (Int.tmod a2 4294967296) (IntKind.u64.wrap (a3 * 4294967296))) t190 t191 _ A6.out).mono ?_); rintro e w' ⟨rfl, ⟨nd, rfl⟩⟩; refine ⟨_, rfl, ?_⟩) | ((with_reducible refine gate_callee (f := 15) rfl ?_); refine goesL_ (some 46) rfl rfl Try.func15 (by kernel_rfl) rfl #[.int .i64 a0, .bool false, .int .u64 a1, .int .u64 a2] rfl (by (try simp only [List.map_toArray, List.map_cons, List.map_nil]); first | done | rfl | (simp only [List.length_drop, List.length_take]; rfl)) ?_; (with_reducible refine (word_Jump.calls k a0 false a1 a2 t192 t193 _ A7.out).mono ?_); rintro e w' ⟨rfl, ⟨nd, rfl⟩⟩; refine ⟨_, rfl, ?_⟩) | ((with_reducible refine gate_callee (f := 15) rfl ?_); refine goesL_ (some 61) rfl rfl Try.func15 (by kernel_rfl) rfl #[.int .i64 a0, .bool false, .int .u64 (Go.bits .or .u64 (Int.tmod a1 4294967296) (IntKind.u64.wrap (a3 * 4294967296))), .int .u64 (Go.bits .or .u64 (Int.tmod a2 4294967296) (IntKind.u64.wrap (a3 * 4294967296)))] rfl (by (try simp only [List.map_toArray, List.map_cons, List.map_nil]); first | done | rfl | (simp only [List.length_drop, List.length_take]; rfl)) ?_; (with_reducible refine (word_Jump.calls k a0 false (Go.bits .or .u64 (Int.tmod a1 4294967296) (IntKind.u64.wrap (a3 * 4294967296))) (Go.bits .or .u64 (Int.tmod a2 4294967296) (IntKind.u64.wrap (a3 * 4294967296))) t194 t195 _ A8.out).mono ?_); rintro e w' ⟨rfl, ⟨nd, rfl⟩⟩; refine ⟨_, rfl, ?_⟩))
  (try simp only [Act.put, List.setIfInBounds_toArray, List.set_cons_zero, List.set_cons_succ])
  go_cut [85] (fun v85 wc => ∃ (kq : Nat) (x85_8 : Bool), v85 = .bool x85_8 ∧ Aside0 (lockgatelaw01_WordNarrow.j0 kq a0 a1 a2 t188 t192 t193 x85_8 = some r) ∧ Aside0 (kq ≤ k) ∧ Drawn0 w wc)
  case first =>
    have H := HC9.out
    clear HC9
    by_cases c10 : t188 = t190
    · rw [if_pos c10] at H
      have c10b0 : (t188 == t190) = true := beq_iff_eq.mpr c10
      have c10b1 : (t188 != t190) = false := bne_eq_false_iff_eq.mpr c10
      clear c10
      (first | rw [c10b0] | (simp only [i64_w, i32_w]; rw [c10b0]) | skip)
      by_cases c11 : (t189 != t191) = true
      · rw [if_pos c11] at H
        have c11b0 : (t189 != t191) = true := c11
        (try (have c11b1 : decide (t189 = t191) = false := by simpa using c11))
        (try (have c11b2 : (t189 == t191) = false := by simpa using c11))
        (try (have c11b3 : ¬ (t189 = t191) := by simpa using c11))
        clear c11
        have H' := Aside0.mk H
        clear H
        go_wp2
        go_meet
        case rel => exact ⟨_, (true), (by first | rfl | (simp; done) | (simp [*]; done)), H', ⟨by first | omega | exact Nat.le_refl _⟩, by repeat (first | exact Drawn0.refl _ | apply Drawn0.step)⟩
      · rw [if_neg c11] at H
        have c11b0 : (t189 != t191) = false := by simpa using c11
        (try (have c11b1 : decide (t189 = t191) = true := by simpa using c11))
        (try (have c11b2 : (t189 == t191) = true := by simpa using c11))
        clear c11
        by_cases c12 : t188 ≥ 4294967296
        · rw [if_pos c12] at H
          have c12b0 : decide (4294967296 ≤ t188) = true := decide_eq_true c12
          clear c12
          have H' := Aside0.mk H
          clear H
          go_wp2
          go_meet
          case rel => exact ⟨_, (true), (by first | rfl | (simp; done) | (simp [*]; done)), H', ⟨by first | omega | exact Nat.le_refl _⟩, by repeat (first | exact Drawn0.refl _ | apply Drawn0.step)⟩
        · rw [if_neg c12] at H
          have c12b0 : decide (4294967296 ≤ t188) = false := decide_eq_false c12
          clear c12
          by_cases c13 : (t192 != t194) = true
          · rw [if_pos c13] at H
            have c13b0 : (t192 != t194) = true := c13
            (try (have c13b1 : decide (t192 = t194) = false := by simpa using c13))
            (try (have c13b2 : (t192 == t194) = false := by simpa using c13))
            (try (have c13b3 : ¬ (t192 = t194) := by simpa using c13))
            clear c13
            have H' := Aside0.mk H
            clear H
            go_wp2
            go_meet
            case rel => exact ⟨_, (true), (by first | rfl | (simp; done) | (simp [*]; done)), H', ⟨by first | omega | exact Nat.le_refl _⟩, by repeat (first | exact Drawn0.refl _ | apply Drawn0.step)⟩
          · rw [if_neg c13] at H
            have c13b0 : (t192 != t194) = false := by simpa using c13
            (try (have c13b1 : decide (t192 = t194) = true := by simpa using c13))
            (try (have c13b2 : (t192 == t194) = true := by simpa using c13))
            clear c13
            have H' := Aside0.mk H
            clear H
            go_wp2
            go_meet
            case rel => exact ⟨_, ((t193 != t195)), (by first | rfl | (simp; done) | (simp [*]; done)), H', ⟨by first | omega | exact Nat.le_refl _⟩, by repeat (first | exact Drawn0.refl _ | apply Drawn0.step)⟩
    · rw [if_neg c10] at H
      have c10b0 : (t188 == t190) = false := beq_eq_false_iff_ne.mpr c10
      have c10b1 : (t188 != t190) = true := bne_iff_ne.mpr c10
      (first | rw [c10b0] | (simp only [i64_w, i32_w]; rw [c10b0]) | skip)
      have H' := Aside0.mk H
      clear H
      go_wp2
      go_meet
      case rel => exact ⟨_, (true), (by first | rfl | (simp; done) | (simp [*]; done)), H', ⟨by first | omega | exact Nat.le_refl _⟩, by repeat (first | exact Drawn0.refl _ | apply Drawn0.step)⟩
  case rest =>
    clear HC9
    try clear c1
    try clear p2
    try clear c6
    try clear c10
    try clear c10b0
    try clear c10b1
    try clear c11
    try clear c11b0
    try clear c11b1
    try clear c11b2
    try clear c12
    try clear c12b0
    try clear c13
    try clear c13b0
    try clear c13b1
    try clear c13b2
    obtain ⟨kq, x85_8, rfl, HA, HJ8, ⟨mc8, rfl⟩⟩ := hcut
    cases kq with
    | zero => exact absurd HA.out (by simp [lockgatelaw01_WordNarrow.j0])
    | succ kj8 =>
      have H := HA.out
      clear HA
      simp only [lockgatelaw01_WordNarrow.j0] at H
      by_cases c14 : x85_8 = true
      · subst c14
        have H1 : (some false) = some r := by rw [if_pos rfl] at H; exact H
        clear H
        have H := H1
        clear H1
        exact absurd ((Option.some.inj H).trans HRT.out) (by decide)
      · replace c14 := Bool.eq_false_iff.mpr c14
        subst c14
        have H1 : (if a0 ≥ 0 then (if a0 ≤ 5 then (lockgatelaw01_WordNarrow.j1 kj8 a0 t188 t192 t193 (Int.tmod a1 4294967296) (Int.tmod a2 4294967296) true) else (if a0 = 9 then (lockgatelaw01_WordNarrow.j1 kj8 a0 t188 t192 t193 (Int.tmod a1 4294967296) (Int.tmod a2 4294967296) true) else (if a0 = 10 then (lockgatelaw01_WordNarrow.j1 kj8 a0 t188 t192 t193 (Int.tmod a1 4294967296) (Int.tmod a2 4294967296) true) else (lockgatelaw01_WordNarrow.j1 kj8 a0 t188 t192 t193 (Int.tmod a1 4294967296) (Int.tmod a2 4294967296) (a0 == 11))))) else (if a0 = 9 then (lockgatelaw01_WordNarrow.j1 kj8 a0 t188 t192 t193 (Int.tmod a1 4294967296) (Int.tmod a2 4294967296) true) else (if a0 = 10 then (lockgatelaw01_WordNarrow.j1 kj8 a0 t188 t192 t193 (Int.tmod a1 4294967296) (Int.tmod a2 4294967296) true) else (lockgatelaw01_WordNarrow.j1 kj8 a0 t188 t192 t193 (Int.tmod a1 4294967296) (Int.tmod a2 4294967296) (a0 == 11))))) = some r := by rw [if_neg (show ¬ (false = true) by decide)] at H; exact H
        clear H
        have H := H1
        clear H1
        have HC15 := Aside0.mk H
        clear H
        go_upto_region 9 with (fail)
        go_cut [107] (fun v107 wc => ∃ (kq : Nat) (x107_14 : Bool), v107 = .bool x107_14 ∧ Aside0 (lockgatelaw01_WordNarrow.j1 kq a0 t188 t192 t193 (Int.tmod a1 4294967296) (Int.tmod a2 4294967296) x107_14 = some r) ∧ Aside0 (kq ≤ kj8) ∧ Drawn0 w wc)
        case first =>
          have H := HC15.out
          clear HC15
          by_cases c16 : a0 ≥ 0
          · rw [if_pos c16] at H
            have c16b0 : decide (0 ≤ a0) = true := decide_eq_true c16
            clear c16
            (first | rw [c16b0] | (simp only [i64_w, i32_w]; rw [c16b0]) | skip)
            by_cases c17 : a0 ≤ 5
            · rw [if_pos c17] at H
              have c17b0 : decide (a0 ≤ 5) = true := decide_eq_true c17
              clear c17
              have H' := Aside0.mk H
              clear H
              go_wp2
              go_meet
              case rel => exact ⟨_, (true), (by first | rfl | (simp; done) | (simp [*]; done)), H', ⟨by have := HJ8.out; first | omega | exact Nat.le_refl _⟩, by repeat (first | exact Drawn0.refl _ | apply Drawn0.step)⟩
            · rw [if_neg c17] at H
              have c17b0 : decide (a0 ≤ 5) = false := decide_eq_false c17
              clear c17
              by_cases c18 : a0 = 9
              · rw [if_pos c18] at H
                have c18b0 : (a0 == 9) = true := beq_iff_eq.mpr c18
                have c18b1 : (a0 != 9) = false := bne_eq_false_iff_eq.mpr c18
                clear c18
                have H' := Aside0.mk H
                clear H
                go_wp2
                go_meet
                case rel => exact ⟨_, (true), (by first | rfl | (simp; done) | (simp [*]; done)), H', ⟨by have := HJ8.out; first | omega | exact Nat.le_refl _⟩, by repeat (first | exact Drawn0.refl _ | apply Drawn0.step)⟩
              · rw [if_neg c18] at H
                have c18b0 : (a0 == 9) = false := beq_eq_false_iff_ne.mpr c18
                have c18b1 : (a0 != 9) = true := bne_iff_ne.mpr c18
                by_cases c19 : a0 = 10
                · rw [if_pos c19] at H
                  have c19b0 : (a0 == 10) = true := beq_iff_eq.mpr c19
                  have c19b1 : (a0 != 10) = false := bne_eq_false_iff_eq.mpr c19
                  clear c19
                  have H' := Aside0.mk H
                  clear H
                  go_wp2
                  go_meet
                  case rel => exact ⟨_, (true), (by first | rfl | (simp; done) | (simp [*]; done)), H', ⟨by have := HJ8.out; first | omega | exact Nat.le_refl _⟩, by repeat (first | exact Drawn0.refl _ | apply Drawn0.step)⟩
                · rw [if_neg c19] at H
                  have c19b0 : (a0 == 10) = false := beq_eq_false_iff_ne.mpr c19
                  have c19b1 : (a0 != 10) = true := bne_iff_ne.mpr c19
                  have H' := Aside0.mk H
                  clear H
                  go_wp2
                  go_meet
                  case rel => exact ⟨_, ((a0 == 11)), (by first | rfl | (simp; done) | (simp [*]; done)), H', ⟨by have := HJ8.out; first | omega | exact Nat.le_refl _⟩, by repeat (first | exact Drawn0.refl _ | apply Drawn0.step)⟩
          · rw [if_neg c16] at H
            have c16b0 : decide (0 ≤ a0) = false := decide_eq_false c16
            clear c16
            (first | rw [c16b0] | (simp only [i64_w, i32_w]; rw [c16b0]) | skip)
            by_cases c20 : a0 = 9
            · rw [if_pos c20] at H
              have c20b0 : (a0 == 9) = true := beq_iff_eq.mpr c20
              have c20b1 : (a0 != 9) = false := bne_eq_false_iff_eq.mpr c20
              clear c20
              have H' := Aside0.mk H
              clear H
              go_wp2
              go_meet
              case rel => exact ⟨_, (true), (by first | rfl | (simp; done) | (simp [*]; done)), H', ⟨by have := HJ8.out; first | omega | exact Nat.le_refl _⟩, by repeat (first | exact Drawn0.refl _ | apply Drawn0.step)⟩
            · rw [if_neg c20] at H
              have c20b0 : (a0 == 9) = false := beq_eq_false_iff_ne.mpr c20
              have c20b1 : (a0 != 9) = true := bne_iff_ne.mpr c20
              by_cases c21 : a0 = 10
              · rw [if_pos c21] at H
                have c21b0 : (a0 == 10) = true := beq_iff_eq.mpr c21
                have c21b1 : (a0 != 10) = false := bne_eq_false_iff_eq.mpr c21
                clear c21
                have H' := Aside0.mk H
                clear H
                go_wp2
                go_meet
                case rel => exact ⟨_, (true), (by first | rfl | (simp; done) | (simp [*]; done)), H', ⟨by have := HJ8.out; first | omega | exact Nat.le_refl _⟩, by repeat (first | exact Drawn0.refl _ | apply Drawn0.step)⟩
              · rw [if_neg c21] at H
                have c21b0 : (a0 == 10) = false := beq_eq_false_iff_ne.mpr c21
                have c21b1 : (a0 != 10) = true := bne_iff_ne.mpr c21
                have H' := Aside0.mk H
                clear H
                go_wp2
                go_meet
                case rel => exact ⟨_, ((a0 == 11)), (by first | rfl | (simp; done) | (simp [*]; done)), H', ⟨by have := HJ8.out; first | omega | exact Nat.le_refl _⟩, by repeat (first | exact Drawn0.refl _ | apply Drawn0.step)⟩
        case rest =>
          clear HC15
          try clear c1
          try clear c2
          try clear p2
          try clear c6
          try clear c8
          try clear c10
          try clear c10b0
          try clear c10b1
          try clear c11
          try clear c11b0
          try clear c11b1
          try clear c11b2
          try clear c12
          try clear c12b0
          try clear c13
          try clear c13b0
          try clear c13b1
          try clear c13b2
          try clear c14
          try clear c15
          try clear c16
          try clear c16b0
          try clear c17
          try clear c17b0
          try clear c18
          try clear c18b0
          try clear c18b1
          try clear c19
          try clear c19b0
          try clear c19b1
          try clear c20
          try clear c20b0
          try clear c20b1
          try clear c21
          try clear c21b0
          try clear c21b1
          try clear p2
          obtain ⟨kq, x107_14, rfl, HA, HJ14, ⟨mc14, rfl⟩⟩ := hcut
          cases kq with
          | zero => exact absurd HA.out (by simp [lockgatelaw01_WordNarrow.j1])
          | succ kj14 =>
            have H := HA.out
            clear HA
            simp only [lockgatelaw01_WordNarrow.j1] at H
            by_cases c22 : x107_14 = true
            · subst c22
              have H1 : ((lockgatelaw01_alu.f kj14 a0 true (Int.tmod a1 4294967296) (Int.tmod a2 4294967296)).bind fun t196 => (if (Int.tmod t196 4294967296) = t188 then ((lockgatelaw01_known.f kj14).bind fun t197 => (some t197)) else (some false))) = some r := by rw [if_pos rfl] at H; exact H
              clear H
              have H := H1
              clear H1
              replace H := Option.bind_eq_some_iff.mp H
              obtain ⟨t196, A230, H⟩ := H
              replace H : (if (Int.tmod t196 4294967296) = t188 then ((lockgatelaw01_known.f kj14).bind fun t197 => (some t197)) else (some false)) = some r := H
              have A23 := Aside0.mk A230
              clear A230
              by_cases c24 : (Int.tmod t196 4294967296) = t188
              · rw [if_pos c24] at H
                have c24b0 : ((Int.tmod t196 4294967296) == t188) = true := beq_iff_eq.mpr c24
                have c24b1 : ((Int.tmod t196 4294967296) != t188) = false := bne_eq_false_iff_eq.mpr c24
                clear c24
                replace H := Option.bind_eq_some_iff.mp H
                obtain ⟨t197, A250, H⟩ := H
                replace H : (some t197) = some r := H
                have A25 := Aside0.mk A250
                clear A250
                obtain rfl := Option.some.inj H
                go_wp2_with (first | ((with_reducible refine gate_callee (f := 17) rfl ?_); refine goesL_ (some 111) rfl rfl Try.func17 (by kernel_rfl) rfl #[.int .i64 a0, .bool true, .int .u64 (Int.tmod a1 4294967296), .int .u64 (Int.tmod a2 4294967296)] rfl (by (try simp only [List.map_toArray, List.map_cons, List.map_nil]); first | done | rfl | (simp only [List.length_drop, List.length_take]; rfl)) ?_; (with_reducible refine (lockgatelaw01_alu.calls kj14 a0 true (Int.tmod a1 4294967296) (Int.tmod a2 4294967296) t196 _ A23.out).mono ?_); rintro e w' ⟨rfl, ⟨nd, rfl⟩⟩; refine ⟨_, rfl, ?_⟩) | (go_at_call 14; (with_reducible refine (lockgatelaw01_known.calls kj14  t197 _ A25.out).mono ?_); rintro e w' ⟨rfl, ⟨nd, rfl⟩⟩))
                go_ret
                exact ⟨by first | rfl | (simp; done) | (simp [*]; done), by repeat (first | exact Drawn0.refl _ | apply Drawn0.step)⟩
              · rw [if_neg c24] at H
                have c24b0 : ((Int.tmod t196 4294967296) == t188) = false := beq_eq_false_iff_ne.mpr c24
                have c24b1 : ((Int.tmod t196 4294967296) != t188) = true := bne_iff_ne.mpr c24
                exact absurd ((Option.some.inj H).trans HRT.out) (by decide)
            · replace c22 := Bool.eq_false_iff.mpr c22
              subst c22
              have H1 : (if t193 = true then (if a0 < 6 then (lockgatelaw01_WordNarrow.j2 kj14 a0 t192 (Int.tmod a1 4294967296) (Int.tmod a2 4294967296) (decide (a0 < 12))) else (if a0 > 7 then (lockgatelaw01_WordNarrow.j2 kj14 a0 t192 (Int.tmod a1 4294967296) (Int.tmod a2 4294967296) (decide (a0 < 12))) else (lockgatelaw01_WordNarrow.j2 kj14 a0 t192 (Int.tmod a1 4294967296) (Int.tmod a2 4294967296) false))) else (lockgatelaw01_WordNarrow.j2 kj14 a0 t192 (Int.tmod a1 4294967296) (Int.tmod a2 4294967296) false)) = some r := by rw [if_neg (show ¬ (false = true) by decide)] at H; exact H
              clear H
              have H := H1
              clear H1
              have HC26 := Aside0.mk H
              clear H
              go_upto_region 12 with (fail)
              go_cut [131] (fun v131 wc => ∃ (kq : Nat) (x131_25 : Bool), v131 = .bool x131_25 ∧ Aside0 (lockgatelaw01_WordNarrow.j2 kq a0 t192 (Int.tmod a1 4294967296) (Int.tmod a2 4294967296) x131_25 = some r) ∧ Aside0 (kq ≤ kj14) ∧ Drawn0 w wc)
              case first =>
                have H := HC26.out
                clear HC26
                by_cases c27 : t193 = true
                · subst c27
                  have H1 : (if a0 < 6 then (lockgatelaw01_WordNarrow.j2 kj14 a0 t192 (Int.tmod a1 4294967296) (Int.tmod a2 4294967296) (decide (a0 < 12))) else (if a0 > 7 then (lockgatelaw01_WordNarrow.j2 kj14 a0 t192 (Int.tmod a1 4294967296) (Int.tmod a2 4294967296) (decide (a0 < 12))) else (lockgatelaw01_WordNarrow.j2 kj14 a0 t192 (Int.tmod a1 4294967296) (Int.tmod a2 4294967296) false))) = some r := by rw [if_pos rfl] at H; exact H
                  clear H
                  have H := H1
                  clear H1
                  by_cases c28 : a0 < 6
                  · rw [if_pos c28] at H
                    have c28b0 : decide (a0 < 6) = true := decide_eq_true c28
                    clear c28
                    (first | rw [c28b0] | (simp only [i64_w, i32_w]; rw [c28b0]) | skip)
                    have H' := Aside0.mk H
                    clear H
                    go_wp2
                    go_meet
                    case rel => exact ⟨_, (decide (a0 < 12)), (by first | rfl | (simp; done) | (simp [*]; done)), H', ⟨by have := HJ8.out; have := HJ14.out; first | omega | exact Nat.le_refl _⟩, by repeat (first | exact Drawn0.refl _ | apply Drawn0.step)⟩
                  · rw [if_neg c28] at H
                    have c28b0 : decide (a0 < 6) = false := decide_eq_false c28
                    clear c28
                    (first | rw [c28b0] | (simp only [i64_w, i32_w]; rw [c28b0]) | skip)
                    by_cases c29 : a0 > 7
                    · rw [if_pos c29] at H
                      have c29b0 : decide (7 < a0) = true := decide_eq_true c29
                      clear c29
                      have H' := Aside0.mk H
                      clear H
                      go_wp2
                      go_meet
                      case rel => exact ⟨_, (decide (a0 < 12)), (by first | rfl | (simp; done) | (simp [*]; done)), H', ⟨by have := HJ8.out; have := HJ14.out; first | omega | exact Nat.le_refl _⟩, by repeat (first | exact Drawn0.refl _ | apply Drawn0.step)⟩
                    · rw [if_neg c29] at H
                      have c29b0 : decide (7 < a0) = false := decide_eq_false c29
                      clear c29
                      have H' := Aside0.mk H
                      clear H
                      go_wp2
                      go_meet
                      case rel => exact ⟨_, (false), (by first | rfl | (simp; done) | (simp [*]; done)), H', ⟨by have := HJ8.out; have := HJ14.out; first | omega | exact Nat.le_refl _⟩, by repeat (first | exact Drawn0.refl _ | apply Drawn0.step)⟩
                · replace c27 := Bool.eq_false_iff.mpr c27
                  subst c27
                  have H1 : (lockgatelaw01_WordNarrow.j2 kj14 a0 t192 (Int.tmod a1 4294967296) (Int.tmod a2 4294967296) false) = some r := by rw [if_neg (show ¬ (false = true) by decide)] at H; exact H
                  clear H
                  have H := H1
                  clear H1
                  have H' := Aside0.mk H
                  clear H
                  go_wp2
                  go_meet
                  case rel => exact ⟨_, (false), (by first | rfl | (simp; done) | (simp [*]; done)), H', ⟨by have := HJ8.out; have := HJ14.out; first | omega | exact Nat.le_refl _⟩, by repeat (first | exact Drawn0.refl _ | apply Drawn0.step)⟩
              case rest =>
                clear HC26
                try clear c1
                try clear c2
                try clear p2
                try clear c6
                try clear c8
                try clear c10
                try clear c10b0
                try clear c10b1
                try clear c11
                try clear c11b0
                try clear c11b1
                try clear c11b2
                try clear c12
                try clear c12b0
                try clear c13
                try clear c13b0
                try clear c13b1
                try clear c13b2
                try clear c14
                try clear c15
                try clear c16
                try clear c16b0
                try clear c17
                try clear c17b0
                try clear c18
                try clear c18b0
                try clear c18b1
                try clear c19
                try clear c19b0
                try clear c19b1
                try clear c20
                try clear c20b0
                try clear c20b1
                try clear c21
                try clear c21b0
                try clear c21b1
                try clear c22
                try clear c24
                try clear c24b0
                try clear c24b1
                try clear c27
                try clear c28
                try clear c28b0
                try clear c29
                try clear c29b0
                try clear p2
                obtain ⟨kq, x131_25, rfl, HA, HJ25, ⟨mc25, rfl⟩⟩ := hcut
                cases kq with
                | zero => exact absurd HA.out (by simp [lockgatelaw01_WordNarrow.j2])
                | succ kj25 =>
                  have H := HA.out
                  clear HA
                  simp only [lockgatelaw01_WordNarrow.j2] at H
                  by_cases c30 : x131_25 = true
                  · subst c30
                    have H1 : ((lockgatelaw01_jump.f kj25 a0 true (Int.tmod a1 4294967296) (Int.tmod a2 4294967296)).bind fun t198 => (if (t198 == t192) = true then ((lockgatelaw01_known.f kj25).bind fun t199 => (some t199)) else (some false))) = some r := by rw [if_pos rfl] at H; exact H
                    clear H
                    have H := H1
                    clear H1
                    replace H := Option.bind_eq_some_iff.mp H
                    obtain ⟨t198, A310, H⟩ := H
                    replace H : (if (t198 == t192) = true then ((lockgatelaw01_known.f kj25).bind fun t199 => (some t199)) else (some false)) = some r := H
                    have A31 := Aside0.mk A310
                    clear A310
                    by_cases c32 : (t198 == t192) = true
                    · rw [if_pos c32] at H
                      have c32b0 : (t198 == t192) = true := c32
                      (try (have c32b1 : decide (t198 = t192) = true := by simpa using c32))
                      (try (have c32b2 : (t198 == t192) = true := by simpa using c32))
                      clear c32
                      replace H := Option.bind_eq_some_iff.mp H
                      obtain ⟨t199, A330, H⟩ := H
                      replace H : (some t199) = some r := H
                      have A33 := Aside0.mk A330
                      clear A330
                      obtain rfl := Option.some.inj H
                      go_wp2_with (first | ((with_reducible refine gate_callee (f := 18) rfl ?_); refine goesL_ (some 135) rfl rfl Try.func18 (by kernel_rfl) rfl #[.int .i64 a0, .bool true, .int .u64 (Int.tmod a1 4294967296), .int .u64 (Int.tmod a2 4294967296)] rfl (by (try simp only [List.map_toArray, List.map_cons, List.map_nil]); first | done | rfl | (simp only [List.length_drop, List.length_take]; rfl)) ?_; (with_reducible refine (lockgatelaw01_jump.calls kj25 a0 true (Int.tmod a1 4294967296) (Int.tmod a2 4294967296) t198 _ A31.out).mono ?_); rintro e w' ⟨rfl, ⟨nd, rfl⟩⟩; refine ⟨_, rfl, ?_⟩) | (go_at_call 14; (with_reducible refine (lockgatelaw01_known.calls kj25  t199 _ A33.out).mono ?_); rintro e w' ⟨rfl, ⟨nd, rfl⟩⟩))
                      go_ret
                      exact ⟨by first | rfl | (simp; done) | (simp [*]; done), by repeat (first | exact Drawn0.refl _ | apply Drawn0.step)⟩
                    · rw [if_neg c32] at H
                      have c32b0 : (t198 == t192) = false := by simpa using c32
                      (try (have c32b1 : decide (t198 = t192) = false := by simpa using c32))
                      (try (have c32b2 : (t198 == t192) = false := by simpa using c32))
                      (try (have c32b3 : ¬ (t198 = t192) := by simpa using c32))
                      clear c32
                      exact absurd ((Option.some.inj H).trans HRT.out) (by decide)
                  · replace c30 := Bool.eq_false_iff.mpr c30
                    subst c30
                    have H1 : ((lockgatelaw01_known.f kj25).bind fun t200 => (some t200)) = some r := by rw [if_neg (show ¬ (false = true) by decide)] at H; exact H
                    clear H
                    have H := H1
                    clear H1
                    replace H := Option.bind_eq_some_iff.mp H
                    obtain ⟨t200, A340, H⟩ := H
                    replace H : (some t200) = some r := H
                    have A34 := Aside0.mk A340
                    clear A340
                    obtain rfl := Option.some.inj H
                    go_wp2_with (first | ((with_reducible refine gate_callee (f := 14) rfl ?_); refine goesL_ (some 141) rfl rfl Try.func14 (by kernel_rfl) rfl #[] rfl (by (try simp only [List.map_toArray, List.map_cons, List.map_nil]); first | done | rfl | (simp only [List.length_drop, List.length_take]; rfl)) ?_; (with_reducible refine (lockgatelaw01_known.calls kj25  t200 _ A34.out).mono ?_); rintro e w' ⟨rfl, ⟨nd, rfl⟩⟩; refine ⟨_, rfl, ?_⟩))
                    go_ret
                    exact ⟨by first | rfl | (simp; done) | (simp [*]; done), by repeat (first | exact Drawn0.refl _ | apply Drawn0.step)⟩

end Go.Proofs.Ytbionehmfbmcdaa.PA
