-- PRINTED by print.py (a twelfth state) out of the translation. Not trusted: Lean checks it.
import Derived.Test.YtbionehmfbmcdaaPA0
import Derived.Test.YtbionehmfbmcdaaPA10
namespace Go.Proofs.Ytbionehmfbmcdaa.PA
open Go.RowKit Go.Proofs.YtbionehmfbmcdaaW.PrintWords Go.Proofs.YtbionehmfbmcdaaW.PrintLast Go.Proofs.YtbionehmfbmcdaaW.PrintMore
attribute [local go_sem] max2_int min2_int max_two min_two max_three min_three max_four min_four   -- for this text's walks alone
set_option linter.unusedVariables false
set_option linter.unusedSimpArgs false

/-! ### lockgatelaw01_WordBack: function 5 -/
mutual
def lockgatelaw01_WordBack.j0 : Nat → Bool → Int → Int → Int → Int → Int → Int → Bool → Option (Bool)
  | 0, _, _, _, _, _, _, _, _ => none
  | k + 1, x0, x1, x2, x7, x8, x9, x10, x53 => if x53 = true then (some false) else ((lockgatelaw01_alu.f k 2 x0 x9 x2).bind fun t181 => ((lockgatelaw01_alu.f k 0 x0 t181 x10).bind fun t182 => (if t182 = x7 then (if x8 > 0 then (if x10 ≥ x8 then (lockgatelaw01_WordBack.j1 k x0 x1 x2 true) else (if x8 = 0 then (if x9 = 0 then (lockgatelaw01_WordBack.j1 k x0 x1 x2 (x10 != x7)) else (lockgatelaw01_WordBack.j1 k x0 x1 x2 true)) else (lockgatelaw01_WordBack.j1 k x0 x1 x2 false))) else (if x8 = 0 then (if x9 = 0 then (lockgatelaw01_WordBack.j1 k x0 x1 x2 (x10 != x7)) else (lockgatelaw01_WordBack.j1 k x0 x1 x2 true)) else (lockgatelaw01_WordBack.j1 k x0 x1 x2 false))) else (lockgatelaw01_WordBack.j1 k x0 x1 x2 true))))
def lockgatelaw01_WordBack.j1 : Nat → Bool → Int → Int → Bool → Option (Bool)
  | 0, _, _, _, _ => none
  | k + 1, x0, x1, x2, x84 => if x84 = true then (some false) else ((lockgatelaw01_alu.f k 4 x0 x1 x2).bind fun t183 => ((lockgatelaw01_alu.f k 5 x0 x1 x2).bind fun t184 => ((lockgatelaw01_alu.f k 0 x0 t183 t184).bind fun t185 => ((lockgatelaw01_alu.f k 0 x0 x1 x2).bind fun t186 => (if t185 = t186 then ((lockgatelaw01_known.f k).bind fun t187 => (some t187)) else (some false))))))
end
def lockgatelaw01_WordBack.f (k : Nat) (a0 : Bool) (a1 : Int) (a2 : Int) : Option (Bool) := (lockgatelaw01_alu.f k 11 a0 0 a1).bind fun t171 => ((lockgatelaw01_alu.f k 11 a0 0 a2).bind fun t172 => ((lockgatelaw01_alu.f k 3 a0 a1 a2).bind fun t173 => ((lockgatelaw01_alu.f k 9 a0 a1 a2).bind fun t174 => ((lockgatelaw01_alu.f k 0 a0 a1 a2).bind fun t175 => ((lockgatelaw01_alu.f k 1 a0 t175 a2).bind fun t176 => (if t176 = t171 then ((lockgatelaw01_alu.f k 10 a0 a1 a2).bind fun t177 => ((lockgatelaw01_alu.f k 10 a0 t177 a2).bind fun t178 => (if t178 = t171 then ((lockgatelaw01_alu.f k 8 a0 a1 0).bind fun t179 => ((lockgatelaw01_alu.f k 0 a0 a1 t179).bind fun t180 => (lockgatelaw01_WordBack.j0 k a0 a1 a2 t171 t172 t173 t174 (t180 != 0)))) else (lockgatelaw01_WordBack.j0 k a0 a1 a2 t171 t172 t173 t174 true)))) else (lockgatelaw01_WordBack.j0 k a0 a1 a2 t171 t172 t173 t174 true)))))))
theorem lockgatelaw01_WordBack.mono_l : ∀ k, (∀ y0 y1 y2 y3 y4 y5 y6 y7, LeO (lockgatelaw01_WordBack.j0 k y0 y1 y2 y3 y4 y5 y6 y7) (lockgatelaw01_WordBack.j0 (k + 1) y0 y1 y2 y3 y4 y5 y6 y7)) ∧ (∀ y0 y1 y2 y3, LeO (lockgatelaw01_WordBack.j1 k y0 y1 y2 y3) (lockgatelaw01_WordBack.j1 (k + 1) y0 y1 y2 y3))
  | 0 => ⟨fun _ _ _ _ _ _ _ _ r h => by simp [lockgatelaw01_WordBack.j0] at h, fun _ _ _ _ r h => by simp [lockgatelaw01_WordBack.j1] at h⟩
  | k + 1 => by
    obtain ⟨ih0, ih1⟩ := lockgatelaw01_WordBack.mono_l k
    refine ⟨?_, ?_⟩
    · intro y0 y1 y2 y3 y4 y5 y6 y7
      unfold lockgatelaw01_WordBack.j0
      repeat' first
      | (with_reducible exact ih0 _ _ _ _ _ _ _ _)
      | (with_reducible exact ih1 _ _ _ _)
      | (with_reducible exact lockgatelaw01_alu.mono _ _ _ _ _)
      | (with_reducible exact lockgatelaw01_known.mono _)
      | (with_reducible exact LeO.refl _)
      | (with_reducible exact LeO.none _)
      | (with_reducible refine LeO.ite ?_ ?_)
      | (with_reducible refine LeO.bind ?_ (fun _ => ?_))
      | exact ih0 _ _ _ _ _ _ _ _
      | exact ih1 _ _ _ _
      | exact lockgatelaw01_alu.mono _ _ _ _ _
      | exact lockgatelaw01_known.mono _
      | exact LeO.none _
      | refine LeO.ite ?_ ?_
      | refine LeO.bind ?_ (fun _ => ?_)
    · intro y0 y1 y2 y3
      unfold lockgatelaw01_WordBack.j1
      repeat' first
      | (with_reducible exact ih0 _ _ _ _ _ _ _ _)
      | (with_reducible exact ih1 _ _ _ _)
      | (with_reducible exact lockgatelaw01_alu.mono _ _ _ _ _)
      | (with_reducible exact lockgatelaw01_known.mono _)
      | (with_reducible exact LeO.refl _)
      | (with_reducible exact LeO.none _)
      | (with_reducible refine LeO.ite ?_ ?_)
      | (with_reducible refine LeO.bind ?_ (fun _ => ?_))
      | exact ih0 _ _ _ _ _ _ _ _
      | exact ih1 _ _ _ _
      | exact lockgatelaw01_alu.mono _ _ _ _ _
      | exact lockgatelaw01_known.mono _
      | exact LeO.none _
      | refine LeO.ite ?_ ?_
      | refine LeO.bind ?_ (fun _ => ?_)
theorem lockgatelaw01_WordBack.mono : ∀ a0 a1 a2 k, LeO (lockgatelaw01_WordBack.f k a0 a1 a2) (lockgatelaw01_WordBack.f (k + 1) a0 a1 a2) := by
  intro a0 a1 a2 k
  obtain ⟨ih0, ih1⟩ := lockgatelaw01_WordBack.mono_l k
  unfold lockgatelaw01_WordBack.f
  repeat' first
      | (with_reducible exact ih0 _ _ _ _ _ _ _ _)
      | (with_reducible exact ih1 _ _ _ _)
      | (with_reducible exact lockgatelaw01_alu.mono _ _ _ _ _)
      | (with_reducible exact lockgatelaw01_known.mono _)
      | (with_reducible exact LeO.refl _)
      | (with_reducible exact LeO.none _)
      | (with_reducible refine LeO.ite ?_ ?_)
      | (with_reducible refine LeO.bind ?_ (fun _ => ?_))
      | exact ih0 _ _ _ _ _ _ _ _
      | exact ih1 _ _ _ _
      | exact lockgatelaw01_alu.mono _ _ _ _ _
      | exact lockgatelaw01_known.mono _
      | exact LeO.none _
      | refine LeO.ite ?_ ?_
      | refine LeO.bind ?_ (fun _ => ?_)
set_option maxHeartbeats 8000000 in
set_option maxRecDepth 100000 in
theorem lockgatelaw01_WordBack.calls (k : Nat) (a0 : Bool) (a1 : Int) (a2 : Int) (r : Bool) (w : World) (HRT : Aside0 (r = true)) (h : lockgatelaw01_WordBack.f k a0 a1 a2 = some r) :
    Calls Try.prog 5 #[.bool a0, .int .u64 a1, .int .u64 a2] w fun e w' => e = .returned (.bool r) ∧ Drawn0 w w' := by
  have H : ((lockgatelaw01_alu.f k 11 a0 0 a1).bind fun t171 => ((lockgatelaw01_alu.f k 11 a0 0 a2).bind fun t172 => ((lockgatelaw01_alu.f k 3 a0 a1 a2).bind fun t173 => ((lockgatelaw01_alu.f k 9 a0 a1 a2).bind fun t174 => ((lockgatelaw01_alu.f k 0 a0 a1 a2).bind fun t175 => ((lockgatelaw01_alu.f k 1 a0 t175 a2).bind fun t176 => (if t176 = t171 then ((lockgatelaw01_alu.f k 10 a0 a1 a2).bind fun t177 => ((lockgatelaw01_alu.f k 10 a0 t177 a2).bind fun t178 => (if t178 = t171 then ((lockgatelaw01_alu.f k 8 a0 a1 0).bind fun t179 => ((lockgatelaw01_alu.f k 0 a0 a1 t179).bind fun t180 => (lockgatelaw01_WordBack.j0 k a0 a1 a2 t171 t172 t173 t174 (t180 != 0)))) else (lockgatelaw01_WordBack.j0 k a0 a1 a2 t171 t172 t173 t174 true)))) else (lockgatelaw01_WordBack.j0 k a0 a1 a2 t171 t172 t173 t174 true)))))))) = some r := h
  clear h
  replace H := Option.bind_eq_some_iff.mp H
  obtain ⟨t171, A40, H⟩ := H
  replace H : ((lockgatelaw01_alu.f k 11 a0 0 a2).bind fun t172 => ((lockgatelaw01_alu.f k 3 a0 a1 a2).bind fun t173 => ((lockgatelaw01_alu.f k 9 a0 a1 a2).bind fun t174 => ((lockgatelaw01_alu.f k 0 a0 a1 a2).bind fun t175 => ((lockgatelaw01_alu.f k 1 a0 t175 a2).bind fun t176 => (if t176 = t171 then ((lockgatelaw01_alu.f k 10 a0 a1 a2).bind fun t177 => ((lockgatelaw01_alu.f k 10 a0 t177 a2).bind fun t178 => (if t178 = t171 then ((lockgatelaw01_alu.f k 8 a0 a1 0).bind fun t179 => ((lockgatelaw01_alu.f k 0 a0 a1 t179).bind fun t180 => (lockgatelaw01_WordBack.j0 k a0 a1 a2 t171 t172 t173 t174 (t180 != 0)))) else (lockgatelaw01_WordBack.j0 k a0 a1 a2 t171 t172 t173 t174 true)))) else (lockgatelaw01_WordBack.j0 k a0 a1 a2 t171 t172 t173 t174 true))))))) = some r := H
  have A4 := Aside0.mk A40
  clear A40
  replace H := Option.bind_eq_some_iff.mp H
  obtain ⟨t172, A50, H⟩ := H
  replace H : ((lockgatelaw01_alu.f k 3 a0 a1 a2).bind fun t173 => ((lockgatelaw01_alu.f k 9 a0 a1 a2).bind fun t174 => ((lockgatelaw01_alu.f k 0 a0 a1 a2).bind fun t175 => ((lockgatelaw01_alu.f k 1 a0 t175 a2).bind fun t176 => (if t176 = t171 then ((lockgatelaw01_alu.f k 10 a0 a1 a2).bind fun t177 => ((lockgatelaw01_alu.f k 10 a0 t177 a2).bind fun t178 => (if t178 = t171 then ((lockgatelaw01_alu.f k 8 a0 a1 0).bind fun t179 => ((lockgatelaw01_alu.f k 0 a0 a1 t179).bind fun t180 => (lockgatelaw01_WordBack.j0 k a0 a1 a2 t171 t172 t173 t174 (t180 != 0)))) else (lockgatelaw01_WordBack.j0 k a0 a1 a2 t171 t172 t173 t174 true)))) else (lockgatelaw01_WordBack.j0 k a0 a1 a2 t171 t172 t173 t174 true)))))) = some r := H
  have A5 := Aside0.mk A50
  clear A50
  replace H := Option.bind_eq_some_iff.mp H
  obtain ⟨t173, A60, H⟩ := H
  replace H : ((lockgatelaw01_alu.f k 9 a0 a1 a2).bind fun t174 => ((lockgatelaw01_alu.f k 0 a0 a1 a2).bind fun t175 => ((lockgatelaw01_alu.f k 1 a0 t175 a2).bind fun t176 => (if t176 = t171 then ((lockgatelaw01_alu.f k 10 a0 a1 a2).bind fun t177 => ((lockgatelaw01_alu.f k 10 a0 t177 a2).bind fun t178 => (if t178 = t171 then ((lockgatelaw01_alu.f k 8 a0 a1 0).bind fun t179 => ((lockgatelaw01_alu.f k 0 a0 a1 t179).bind fun t180 => (lockgatelaw01_WordBack.j0 k a0 a1 a2 t171 t172 t173 t174 (t180 != 0)))) else (lockgatelaw01_WordBack.j0 k a0 a1 a2 t171 t172 t173 t174 true)))) else (lockgatelaw01_WordBack.j0 k a0 a1 a2 t171 t172 t173 t174 true))))) = some r := H
  have A6 := Aside0.mk A60
  clear A60
  replace H := Option.bind_eq_some_iff.mp H
  obtain ⟨t174, A70, H⟩ := H
  replace H : ((lockgatelaw01_alu.f k 0 a0 a1 a2).bind fun t175 => ((lockgatelaw01_alu.f k 1 a0 t175 a2).bind fun t176 => (if t176 = t171 then ((lockgatelaw01_alu.f k 10 a0 a1 a2).bind fun t177 => ((lockgatelaw01_alu.f k 10 a0 t177 a2).bind fun t178 => (if t178 = t171 then ((lockgatelaw01_alu.f k 8 a0 a1 0).bind fun t179 => ((lockgatelaw01_alu.f k 0 a0 a1 t179).bind fun t180 => (lockgatelaw01_WordBack.j0 k a0 a1 a2 t171 t172 t173 t174 (t180 != 0)))) else (lockgatelaw01_WordBack.j0 k a0 a1 a2 t171 t172 t173 t174 true)))) else (lockgatelaw01_WordBack.j0 k a0 a1 a2 t171 t172 t173 t174 true)))) = some r := H
  have A7 := Aside0.mk A70
  clear A70
  have HC8 := Aside0.mk H
  clear H
  go_enter Try.func5, Try.ntmps5
  go_upto_region 5 with (first | ((with_reducible refine gate_callee (f := 17) rfl ?_); refine goesL_ (some 13) rfl rfl Try.func17 (by kernel_rfl) rfl #[.int .i64 11, .bool a0, .int .u64 0, .int .u64 a1] rfl (by (try simp only [List.map_toArray, List.map_cons, List.map_nil]); first | done | rfl | (simp only [List.length_drop, List.length_take]; rfl)) ?_; (with_reducible refine (lockgatelaw01_alu.calls k 11 a0 0 a1 t171 _ A4.out).mono ?_); rintro e w' ⟨rfl, ⟨nd, rfl⟩⟩; refine ⟨_, rfl, ?_⟩) | ((with_reducible refine gate_callee (f := 17) rfl ?_); refine goesL_ (some 16) rfl rfl Try.func17 (by kernel_rfl) rfl #[.int .i64 11, .bool a0, .int .u64 0, .int .u64 a2] rfl (by (try simp only [List.map_toArray, List.map_cons, List.map_nil]); first | done | rfl | (simp only [List.length_drop, List.length_take]; rfl)) ?_; (with_reducible refine (lockgatelaw01_alu.calls k 11 a0 0 a2 t172 _ A5.out).mono ?_); rintro e w' ⟨rfl, ⟨nd, rfl⟩⟩; refine ⟨_, rfl, ?_⟩) | ((with_reducible refine gate_callee (f := 17) rfl ?_); refine goesL_ (some 20) rfl rfl Try.func17 (by kernel_rfl) rfl #[.int .i64 3, .bool a0, .int .u64 a1, .int .u64 a2] rfl (by (try simp only [List.map_toArray, List.map_cons, List.map_nil]); first | done | rfl | (simp only [List.length_drop, List.length_take]; rfl)) ?_; (with_reducible refine (lockgatelaw01_alu.calls k 3 a0 a1 a2 t173 _ A6.out).mono ?_); rintro e w' ⟨rfl, ⟨nd, rfl⟩⟩; refine ⟨_, rfl, ?_⟩) | ((with_reducible refine gate_callee (f := 17) rfl ?_); refine goesL_ (some 24) rfl rfl Try.func17 (by kernel_rfl) rfl #[.int .i64 9, .bool a0, .int .u64 a1, .int .u64 a2] rfl (by (try simp only [List.map_toArray, List.map_cons, List.map_nil]); first | done | rfl | (simp only [List.length_drop, List.length_take]; rfl)) ?_; (with_reducible refine (lockgatelaw01_alu.calls k 9 a0 a1 a2 t174 _ A7.out).mono ?_); rintro e w' ⟨rfl, ⟨nd, rfl⟩⟩; refine ⟨_, rfl, ?_⟩))
  (try simp only [Act.put, List.setIfInBounds_toArray, List.set_cons_zero, List.set_cons_succ])
  go_cut [53] (fun v53 wc => ∃ (kq : Nat) (x53_7 : Bool), v53 = .bool x53_7 ∧ Aside0 (lockgatelaw01_WordBack.j0 kq a0 a1 a2 t171 t172 t173 t174 x53_7 = some r) ∧ Aside0 (kq ≤ k) ∧ Drawn0 w wc)
  case first =>
    have H := HC8.out
    clear HC8
    replace H := Option.bind_eq_some_iff.mp H
    obtain ⟨t175, A90, H⟩ := H
    replace H : ((lockgatelaw01_alu.f k 1 a0 t175 a2).bind fun t176 => (if t176 = t171 then ((lockgatelaw01_alu.f k 10 a0 a1 a2).bind fun t177 => ((lockgatelaw01_alu.f k 10 a0 t177 a2).bind fun t178 => (if t178 = t171 then ((lockgatelaw01_alu.f k 8 a0 a1 0).bind fun t179 => ((lockgatelaw01_alu.f k 0 a0 a1 t179).bind fun t180 => (lockgatelaw01_WordBack.j0 k a0 a1 a2 t171 t172 t173 t174 (t180 != 0)))) else (lockgatelaw01_WordBack.j0 k a0 a1 a2 t171 t172 t173 t174 true)))) else (lockgatelaw01_WordBack.j0 k a0 a1 a2 t171 t172 t173 t174 true))) = some r := H
    have A9 := Aside0.mk A90
    clear A90
    replace H := Option.bind_eq_some_iff.mp H
    obtain ⟨t176, A100, H⟩ := H
    replace H : (if t176 = t171 then ((lockgatelaw01_alu.f k 10 a0 a1 a2).bind fun t177 => ((lockgatelaw01_alu.f k 10 a0 t177 a2).bind fun t178 => (if t178 = t171 then ((lockgatelaw01_alu.f k 8 a0 a1 0).bind fun t179 => ((lockgatelaw01_alu.f k 0 a0 a1 t179).bind fun t180 => (lockgatelaw01_WordBack.j0 k a0 a1 a2 t171 t172 t173 t174 (t180 != 0)))) else (lockgatelaw01_WordBack.j0 k a0 a1 a2 t171 t172 t173 t174 true)))) else (lockgatelaw01_WordBack.j0 k a0 a1 a2 t171 t172 t173 t174 true)) = some r := H
    have A10 := Aside0.mk A100
    clear A100
    by_cases c11 : t176 = t171
    · rw [if_pos c11] at H
      have c11b0 : (t176 == t171) = true := beq_iff_eq.mpr c11
      have c11b1 : (t176 != t171) = false := bne_eq_false_iff_eq.mpr c11
      clear c11
      (first | rw [c11b0] | (simp only [i64_w, i32_w]; rw [c11b0]) | skip)
      replace H := Option.bind_eq_some_iff.mp H
      obtain ⟨t177, A120, H⟩ := H
      replace H : ((lockgatelaw01_alu.f k 10 a0 t177 a2).bind fun t178 => (if t178 = t171 then ((lockgatelaw01_alu.f k 8 a0 a1 0).bind fun t179 => ((lockgatelaw01_alu.f k 0 a0 a1 t179).bind fun t180 => (lockgatelaw01_WordBack.j0 k a0 a1 a2 t171 t172 t173 t174 (t180 != 0)))) else (lockgatelaw01_WordBack.j0 k a0 a1 a2 t171 t172 t173 t174 true))) = some r := H
      have A12 := Aside0.mk A120
      clear A120
      replace H := Option.bind_eq_some_iff.mp H
      obtain ⟨t178, A130, H⟩ := H
      replace H : (if t178 = t171 then ((lockgatelaw01_alu.f k 8 a0 a1 0).bind fun t179 => ((lockgatelaw01_alu.f k 0 a0 a1 t179).bind fun t180 => (lockgatelaw01_WordBack.j0 k a0 a1 a2 t171 t172 t173 t174 (t180 != 0)))) else (lockgatelaw01_WordBack.j0 k a0 a1 a2 t171 t172 t173 t174 true)) = some r := H
      have A13 := Aside0.mk A130
      clear A130
      by_cases c14 : t178 = t171
      · rw [if_pos c14] at H
        have c14b0 : (t178 == t171) = true := beq_iff_eq.mpr c14
        have c14b1 : (t178 != t171) = false := bne_eq_false_iff_eq.mpr c14
        clear c14
        replace H := Option.bind_eq_some_iff.mp H
        obtain ⟨t179, A150, H⟩ := H
        replace H : ((lockgatelaw01_alu.f k 0 a0 a1 t179).bind fun t180 => (lockgatelaw01_WordBack.j0 k a0 a1 a2 t171 t172 t173 t174 (t180 != 0))) = some r := H
        have A15 := Aside0.mk A150
        clear A150
        replace H := Option.bind_eq_some_iff.mp H
        obtain ⟨t180, A160, H⟩ := H
        replace H : (lockgatelaw01_WordBack.j0 k a0 a1 a2 t171 t172 t173 t174 (t180 != 0)) = some r := H
        have A16 := Aside0.mk A160
        clear A160
        have H' := Aside0.mk H
        clear H
        go_wp2_with (first | ((with_reducible refine gate_callee (f := 17) rfl ?_); refine goesL_ (some 29) rfl rfl Try.func17 (by kernel_rfl) rfl #[.int .i64 0, .bool a0, .int .u64 a1, .int .u64 a2] rfl (by (try simp only [List.map_toArray, List.map_cons, List.map_nil]); first | done | rfl | (simp only [List.length_drop, List.length_take]; rfl)) ?_; (with_reducible refine (lockgatelaw01_alu.calls k 0 a0 a1 a2 t175 _ A9.out).mono ?_); rintro e w' ⟨rfl, ⟨nd, rfl⟩⟩; refine ⟨_, rfl, ?_⟩) | ((with_reducible refine gate_callee (f := 17) rfl ?_); refine goesL_ (some 31) rfl rfl Try.func17 (by kernel_rfl) rfl #[.int .i64 1, .bool a0, .int .u64 t175, .int .u64 a2] rfl (by (try simp only [List.map_toArray, List.map_cons, List.map_nil]); first | done | rfl | (simp only [List.length_drop, List.length_take]; rfl)) ?_; (with_reducible refine (lockgatelaw01_alu.calls k 1 a0 t175 a2 t176 _ A10.out).mono ?_); rintro e w' ⟨rfl, ⟨nd, rfl⟩⟩; refine ⟨_, rfl, ?_⟩) | (go_at_call 17; (with_reducible refine (lockgatelaw01_alu.calls k 10 a0 a1 a2 t177 _ A12.out).mono ?_); rintro e w' ⟨rfl, ⟨nd, rfl⟩⟩) | (go_at_call 17; (with_reducible refine (lockgatelaw01_alu.calls k 10 a0 t177 a2 t178 _ A13.out).mono ?_); rintro e w' ⟨rfl, ⟨nd, rfl⟩⟩) | (go_at_call 17; (with_reducible refine (lockgatelaw01_alu.calls k 8 a0 a1 0 t179 _ A15.out).mono ?_); rintro e w' ⟨rfl, ⟨nd, rfl⟩⟩) | (go_at_call 17; (with_reducible refine (lockgatelaw01_alu.calls k 0 a0 a1 t179 t180 _ A16.out).mono ?_); rintro e w' ⟨rfl, ⟨nd, rfl⟩⟩))
        go_meet
        case rel => exact ⟨_, ((t180 != 0)), (by first | rfl | (simp; done) | (simp [*]; done)), H', ⟨by first | omega | exact Nat.le_refl _⟩, by repeat (first | exact Drawn0.refl _ | apply Drawn0.step)⟩
      · rw [if_neg c14] at H
        have c14b0 : (t178 == t171) = false := beq_eq_false_iff_ne.mpr c14
        have c14b1 : (t178 != t171) = true := bne_iff_ne.mpr c14
        have H' := Aside0.mk H
        clear H
        go_wp2_with (first | ((with_reducible refine gate_callee (f := 17) rfl ?_); refine goesL_ (some 29) rfl rfl Try.func17 (by kernel_rfl) rfl #[.int .i64 0, .bool a0, .int .u64 a1, .int .u64 a2] rfl (by (try simp only [List.map_toArray, List.map_cons, List.map_nil]); first | done | rfl | (simp only [List.length_drop, List.length_take]; rfl)) ?_; (with_reducible refine (lockgatelaw01_alu.calls k 0 a0 a1 a2 t175 _ A9.out).mono ?_); rintro e w' ⟨rfl, ⟨nd, rfl⟩⟩; refine ⟨_, rfl, ?_⟩) | ((with_reducible refine gate_callee (f := 17) rfl ?_); refine goesL_ (some 31) rfl rfl Try.func17 (by kernel_rfl) rfl #[.int .i64 1, .bool a0, .int .u64 t175, .int .u64 a2] rfl (by (try simp only [List.map_toArray, List.map_cons, List.map_nil]); first | done | rfl | (simp only [List.length_drop, List.length_take]; rfl)) ?_; (with_reducible refine (lockgatelaw01_alu.calls k 1 a0 t175 a2 t176 _ A10.out).mono ?_); rintro e w' ⟨rfl, ⟨nd, rfl⟩⟩; refine ⟨_, rfl, ?_⟩) | (go_at_call 17; (with_reducible refine (lockgatelaw01_alu.calls k 10 a0 a1 a2 t177 _ A12.out).mono ?_); rintro e w' ⟨rfl, ⟨nd, rfl⟩⟩) | (go_at_call 17; (with_reducible refine (lockgatelaw01_alu.calls k 10 a0 t177 a2 t178 _ A13.out).mono ?_); rintro e w' ⟨rfl, ⟨nd, rfl⟩⟩))
        go_meet
        case rel => exact ⟨_, (true), (by first | rfl | (simp; done) | (simp [*]; done)), H', ⟨by first | omega | exact Nat.le_refl _⟩, by repeat (first | exact Drawn0.refl _ | apply Drawn0.step)⟩
    · rw [if_neg c11] at H
      have c11b0 : (t176 == t171) = false := beq_eq_false_iff_ne.mpr c11
      have c11b1 : (t176 != t171) = true := bne_iff_ne.mpr c11
      (first | rw [c11b0] | (simp only [i64_w, i32_w]; rw [c11b0]) | skip)
      have H' := Aside0.mk H
      clear H
      go_wp2_with (first | ((with_reducible refine gate_callee (f := 17) rfl ?_); refine goesL_ (some 29) rfl rfl Try.func17 (by kernel_rfl) rfl #[.int .i64 0, .bool a0, .int .u64 a1, .int .u64 a2] rfl (by (try simp only [List.map_toArray, List.map_cons, List.map_nil]); first | done | rfl | (simp only [List.length_drop, List.length_take]; rfl)) ?_; (with_reducible refine (lockgatelaw01_alu.calls k 0 a0 a1 a2 t175 _ A9.out).mono ?_); rintro e w' ⟨rfl, ⟨nd, rfl⟩⟩; refine ⟨_, rfl, ?_⟩) | ((with_reducible refine gate_callee (f := 17) rfl ?_); refine goesL_ (some 31) rfl rfl Try.func17 (by kernel_rfl) rfl #[.int .i64 1, .bool a0, .int .u64 t175, .int .u64 a2] rfl (by (try simp only [List.map_toArray, List.map_cons, List.map_nil]); first | done | rfl | (simp only [List.length_drop, List.length_take]; rfl)) ?_; (with_reducible refine (lockgatelaw01_alu.calls k 1 a0 t175 a2 t176 _ A10.out).mono ?_); rintro e w' ⟨rfl, ⟨nd, rfl⟩⟩; refine ⟨_, rfl, ?_⟩))
      go_meet
      case rel => exact ⟨_, (true), (by first | rfl | (simp; done) | (simp [*]; done)), H', ⟨by first | omega | exact Nat.le_refl _⟩, by repeat (first | exact Drawn0.refl _ | apply Drawn0.step)⟩
  case rest =>
    clear HC8
    try clear c1
    try clear p2
    try clear c5
    try clear c11
    try clear c11b0
    try clear c11b1
    try clear c14
    try clear c14b0
    try clear c14b1
    obtain ⟨kq, x53_7, rfl, HA, HJ7, ⟨mc7, rfl⟩⟩ := hcut
    cases kq with
    | zero => exact absurd HA.out (by simp [lockgatelaw01_WordBack.j0])
    | succ kj7 =>
      have H := HA.out
      clear HA
      simp only [lockgatelaw01_WordBack.j0] at H
      by_cases c17 : x53_7 = true
      · subst c17
        have H1 : (some false) = some r := by rw [if_pos rfl] at H; exact H
        clear H
        have H := H1
        clear H1
        exact absurd ((Option.some.inj H).trans HRT.out) (by decide)
      · replace c17 := Bool.eq_false_iff.mpr c17
        subst c17
        have H1 : ((lockgatelaw01_alu.f kj7 2 a0 t173 a2).bind fun t181 => ((lockgatelaw01_alu.f kj7 0 a0 t181 t174).bind fun t182 => (if t182 = t171 then (if t172 > 0 then (if t174 ≥ t172 then (lockgatelaw01_WordBack.j1 kj7 a0 a1 a2 true) else (if t172 = 0 then (if t173 = 0 then (lockgatelaw01_WordBack.j1 kj7 a0 a1 a2 (t174 != t171)) else (lockgatelaw01_WordBack.j1 kj7 a0 a1 a2 true)) else (lockgatelaw01_WordBack.j1 kj7 a0 a1 a2 false))) else (if t172 = 0 then (if t173 = 0 then (lockgatelaw01_WordBack.j1 kj7 a0 a1 a2 (t174 != t171)) else (lockgatelaw01_WordBack.j1 kj7 a0 a1 a2 true)) else (lockgatelaw01_WordBack.j1 kj7 a0 a1 a2 false))) else (lockgatelaw01_WordBack.j1 kj7 a0 a1 a2 true)))) = some r := by rw [if_neg (show ¬ (false = true) by decide)] at H; exact H
        clear H
        have H := H1
        clear H1
        have HC18 := Aside0.mk H
        clear H
        go_upto_region 7 with (fail)
        go_cut [84] (fun v84 wc => ∃ (kq : Nat) (x84_17 : Bool), v84 = .bool x84_17 ∧ Aside0 (lockgatelaw01_WordBack.j1 kq a0 a1 a2 x84_17 = some r) ∧ Aside0 (kq ≤ kj7) ∧ Drawn0 w wc)
        case first =>
          have H := HC18.out
          clear HC18
          replace H := Option.bind_eq_some_iff.mp H
          obtain ⟨t181, A190, H⟩ := H
          replace H : ((lockgatelaw01_alu.f kj7 0 a0 t181 t174).bind fun t182 => (if t182 = t171 then (if t172 > 0 then (if t174 ≥ t172 then (lockgatelaw01_WordBack.j1 kj7 a0 a1 a2 true) else (if t172 = 0 then (if t173 = 0 then (lockgatelaw01_WordBack.j1 kj7 a0 a1 a2 (t174 != t171)) else (lockgatelaw01_WordBack.j1 kj7 a0 a1 a2 true)) else (lockgatelaw01_WordBack.j1 kj7 a0 a1 a2 false))) else (if t172 = 0 then (if t173 = 0 then (lockgatelaw01_WordBack.j1 kj7 a0 a1 a2 (t174 != t171)) else (lockgatelaw01_WordBack.j1 kj7 a0 a1 a2 true)) else (lockgatelaw01_WordBack.j1 kj7 a0 a1 a2 false))) else (lockgatelaw01_WordBack.j1 kj7 a0 a1 a2 true))) = some r := H
          have A19 := Aside0.mk A190
          clear A190
          replace H := Option.bind_eq_some_iff.mp H
          obtain ⟨t182, A200, H⟩ := H
          replace H : (if t182 = t171 then (if t172 > 0 then (if t174 ≥ t172 then (lockgatelaw01_WordBack.j1 kj7 a0 a1 a2 true) else (if t172 = 0 then (if t173 = 0 then (lockgatelaw01_WordBack.j1 kj7 a0 a1 a2 (t174 != t171)) else (lockgatelaw01_WordBack.j1 kj7 a0 a1 a2 true)) else (lockgatelaw01_WordBack.j1 kj7 a0 a1 a2 false))) else (if t172 = 0 then (if t173 = 0 then (lockgatelaw01_WordBack.j1 kj7 a0 a1 a2 (t174 != t171)) else (lockgatelaw01_WordBack.j1 kj7 a0 a1 a2 true)) else (lockgatelaw01_WordBack.j1 kj7 a0 a1 a2 false))) else (lockgatelaw01_WordBack.j1 kj7 a0 a1 a2 true)) = some r := H
          have A20 := Aside0.mk A200
          clear A200
          by_cases c21 : t182 = t171
          · rw [if_pos c21] at H
            have c21b0 : (t182 == t171) = true := beq_iff_eq.mpr c21
            have c21b1 : (t182 != t171) = false := bne_eq_false_iff_eq.mpr c21
            clear c21
            (first | rw [c21b0] | (simp only [i64_w, i32_w]; rw [c21b0]) | skip)
            by_cases c22 : t172 > 0
            · rw [if_pos c22] at H
              have c22b0 : decide (0 < t172) = true := decide_eq_true c22
              clear c22
              by_cases c23 : t174 ≥ t172
              · rw [if_pos c23] at H
                have c23b0 : decide (t172 ≤ t174) = true := decide_eq_true c23
                clear c23
                have H' := Aside0.mk H
                clear H
                go_wp2_with (first | ((with_reducible refine gate_callee (f := 17) rfl ?_); refine goesL_ (some 58) rfl rfl Try.func17 (by kernel_rfl) rfl #[.int .i64 2, .bool a0, .int .u64 t173, .int .u64 a2] rfl (by (try simp only [List.map_toArray, List.map_cons, List.map_nil]); first | done | rfl | (simp only [List.length_drop, List.length_take]; rfl)) ?_; (with_reducible refine (lockgatelaw01_alu.calls kj7 2 a0 t173 a2 t181 _ A19.out).mono ?_); rintro e w' ⟨rfl, ⟨nd, rfl⟩⟩; refine ⟨_, rfl, ?_⟩) | ((with_reducible refine gate_callee (f := 17) rfl ?_); refine goesL_ (some 60) rfl rfl Try.func17 (by kernel_rfl) rfl #[.int .i64 0, .bool a0, .int .u64 t181, .int .u64 t174] rfl (by (try simp only [List.map_toArray, List.map_cons, List.map_nil]); first | done | rfl | (simp only [List.length_drop, List.length_take]; rfl)) ?_; (with_reducible refine (lockgatelaw01_alu.calls kj7 0 a0 t181 t174 t182 _ A20.out).mono ?_); rintro e w' ⟨rfl, ⟨nd, rfl⟩⟩; refine ⟨_, rfl, ?_⟩))
                go_meet
                case rel => exact ⟨_, (true), (by first | rfl | (simp; done) | (simp [*]; done)), H', ⟨by have := HJ7.out; first | omega | exact Nat.le_refl _⟩, by repeat (first | exact Drawn0.refl _ | apply Drawn0.step)⟩
              · rw [if_neg c23] at H
                have c23b0 : decide (t172 ≤ t174) = false := decide_eq_false c23
                clear c23
                by_cases c24 : t172 = 0
                · rw [if_pos c24] at H
                  have c24b0 : (t172 == 0) = true := beq_iff_eq.mpr c24
                  have c24b1 : (t172 != 0) = false := bne_eq_false_iff_eq.mpr c24
                  clear c24
                  by_cases c25 : t173 = 0
                  · rw [if_pos c25] at H
                    have c25b0 : (t173 == 0) = true := beq_iff_eq.mpr c25
                    have c25b1 : (t173 != 0) = false := bne_eq_false_iff_eq.mpr c25
                    clear c25
                    have H' := Aside0.mk H
                    clear H
                    go_wp2_with (first | ((with_reducible refine gate_callee (f := 17) rfl ?_); refine goesL_ (some 58) rfl rfl Try.func17 (by kernel_rfl) rfl #[.int .i64 2, .bool a0, .int .u64 t173, .int .u64 a2] rfl (by (try simp only [List.map_toArray, List.map_cons, List.map_nil]); first | done | rfl | (simp only [List.length_drop, List.length_take]; rfl)) ?_; (with_reducible refine (lockgatelaw01_alu.calls kj7 2 a0 t173 a2 t181 _ A19.out).mono ?_); rintro e w' ⟨rfl, ⟨nd, rfl⟩⟩; refine ⟨_, rfl, ?_⟩) | ((with_reducible refine gate_callee (f := 17) rfl ?_); refine goesL_ (some 60) rfl rfl Try.func17 (by kernel_rfl) rfl #[.int .i64 0, .bool a0, .int .u64 t181, .int .u64 t174] rfl (by (try simp only [List.map_toArray, List.map_cons, List.map_nil]); first | done | rfl | (simp only [List.length_drop, List.length_take]; rfl)) ?_; (with_reducible refine (lockgatelaw01_alu.calls kj7 0 a0 t181 t174 t182 _ A20.out).mono ?_); rintro e w' ⟨rfl, ⟨nd, rfl⟩⟩; refine ⟨_, rfl, ?_⟩))
                    go_meet
                    case rel => exact ⟨_, ((t174 != t171)), (by first | rfl | (simp; done) | (simp [*]; done)), H', ⟨by have := HJ7.out; first | omega | exact Nat.le_refl _⟩, by repeat (first | exact Drawn0.refl _ | apply Drawn0.step)⟩
                  · rw [if_neg c25] at H
                    have c25b0 : (t173 == 0) = false := beq_eq_false_iff_ne.mpr c25
                    have c25b1 : (t173 != 0) = true := bne_iff_ne.mpr c25
                    have H' := Aside0.mk H
                    clear H
                    go_wp2_with (first | ((with_reducible refine gate_callee (f := 17) rfl ?_); refine goesL_ (some 58) rfl rfl Try.func17 (by kernel_rfl) rfl #[.int .i64 2, .bool a0, .int .u64 t173, .int .u64 a2] rfl (by (try simp only [List.map_toArray, List.map_cons, List.map_nil]); first | done | rfl | (simp only [List.length_drop, List.length_take]; rfl)) ?_; (with_reducible refine (lockgatelaw01_alu.calls kj7 2 a0 t173 a2 t181 _ A19.out).mono ?_); rintro e w' ⟨rfl, ⟨nd, rfl⟩⟩; refine ⟨_, rfl, ?_⟩) | ((with_reducible refine gate_callee (f := 17) rfl ?_); refine goesL_ (some 60) rfl rfl Try.func17 (by kernel_rfl) rfl #[.int .i64 0, .bool a0, .int .u64 t181, .int .u64 t174] rfl (by (try simp only [List.map_toArray, List.map_cons, List.map_nil]); first | done | rfl | (simp only [List.length_drop, List.length_take]; rfl)) ?_; (with_reducible refine (lockgatelaw01_alu.calls kj7 0 a0 t181 t174 t182 _ A20.out).mono ?_); rintro e w' ⟨rfl, ⟨nd, rfl⟩⟩; refine ⟨_, rfl, ?_⟩))
                    go_meet
                    case rel => exact ⟨_, (true), (by first | rfl | (simp; done) | (simp [*]; done)), H', ⟨by have := HJ7.out; first | omega | exact Nat.le_refl _⟩, by repeat (first | exact Drawn0.refl _ | apply Drawn0.step)⟩
                · rw [if_neg c24] at H
                  have c24b0 : (t172 == 0) = false := beq_eq_false_iff_ne.mpr c24
                  have c24b1 : (t172 != 0) = true := bne_iff_ne.mpr c24
                  have H' := Aside0.mk H
                  clear H
                  go_wp2_with (first | ((with_reducible refine gate_callee (f := 17) rfl ?_); refine goesL_ (some 58) rfl rfl Try.func17 (by kernel_rfl) rfl #[.int .i64 2, .bool a0, .int .u64 t173, .int .u64 a2] rfl (by (try simp only [List.map_toArray, List.map_cons, List.map_nil]); first | done | rfl | (simp only [List.length_drop, List.length_take]; rfl)) ?_; (with_reducible refine (lockgatelaw01_alu.calls kj7 2 a0 t173 a2 t181 _ A19.out).mono ?_); rintro e w' ⟨rfl, ⟨nd, rfl⟩⟩; refine ⟨_, rfl, ?_⟩) | ((with_reducible refine gate_callee (f := 17) rfl ?_); refine goesL_ (some 60) rfl rfl Try.func17 (by kernel_rfl) rfl #[.int .i64 0, .bool a0, .int .u64 t181, .int .u64 t174] rfl (by (try simp only [List.map_toArray, List.map_cons, List.map_nil]); first | done | rfl | (simp only [List.length_drop, List.length_take]; rfl)) ?_; (with_reducible refine (lockgatelaw01_alu.calls kj7 0 a0 t181 t174 t182 _ A20.out).mono ?_); rintro e w' ⟨rfl, ⟨nd, rfl⟩⟩; refine ⟨_, rfl, ?_⟩))
                  go_meet
                  case rel => exact ⟨_, (false), (by first | rfl | (simp; done) | (simp [*]; done)), H', ⟨by have := HJ7.out; first | omega | exact Nat.le_refl _⟩, by repeat (first | exact Drawn0.refl _ | apply Drawn0.step)⟩
            · rw [if_neg c22] at H
              have c22b0 : decide (0 < t172) = false := decide_eq_false c22
              clear c22
              by_cases c26 : t172 = 0
              · rw [if_pos c26] at H
                have c26b0 : (t172 == 0) = true := beq_iff_eq.mpr c26
                have c26b1 : (t172 != 0) = false := bne_eq_false_iff_eq.mpr c26
                clear c26
                by_cases c27 : t173 = 0
                · rw [if_pos c27] at H
                  have c27b0 : (t173 == 0) = true := beq_iff_eq.mpr c27
                  have c27b1 : (t173 != 0) = false := bne_eq_false_iff_eq.mpr c27
                  clear c27
                  have H' := Aside0.mk H
                  clear H
                  go_wp2_with (first | ((with_reducible refine gate_callee (f := 17) rfl ?_); refine goesL_ (some 58) rfl rfl Try.func17 (by kernel_rfl) rfl #[.int .i64 2, .bool a0, .int .u64 t173, .int .u64 a2] rfl (by (try simp only [List.map_toArray, List.map_cons, List.map_nil]); first | done | rfl | (simp only [List.length_drop, List.length_take]; rfl)) ?_; (with_reducible refine (lockgatelaw01_alu.calls kj7 2 a0 t173 a2 t181 _ A19.out).mono ?_); rintro e w' ⟨rfl, ⟨nd, rfl⟩⟩; refine ⟨_, rfl, ?_⟩) | ((with_reducible refine gate_callee (f := 17) rfl ?_); refine goesL_ (some 60) rfl rfl Try.func17 (by kernel_rfl) rfl #[.int .i64 0, .bool a0, .int .u64 t181, .int .u64 t174] rfl (by (try simp only [List.map_toArray, List.map_cons, List.map_nil]); first | done | rfl | (simp only [List.length_drop, List.length_take]; rfl)) ?_; (with_reducible refine (lockgatelaw01_alu.calls kj7 0 a0 t181 t174 t182 _ A20.out).mono ?_); rintro e w' ⟨rfl, ⟨nd, rfl⟩⟩; refine ⟨_, rfl, ?_⟩))
                  go_meet
                  case rel => exact ⟨_, ((t174 != t171)), (by first | rfl | (simp; done) | (simp [*]; done)), H', ⟨by have := HJ7.out; first | omega | exact Nat.le_refl _⟩, by repeat (first | exact Drawn0.refl _ | apply Drawn0.step)⟩
                · rw [if_neg c27] at H
                  have c27b0 : (t173 == 0) = false := beq_eq_false_iff_ne.mpr c27
                  have c27b1 : (t173 != 0) = true := bne_iff_ne.mpr c27
                  have H' := Aside0.mk H
                  clear H
                  go_wp2_with (first | ((with_reducible refine gate_callee (f := 17) rfl ?_); refine goesL_ (some 58) rfl rfl Try.func17 (by kernel_rfl) rfl #[.int .i64 2, .bool a0, .int .u64 t173, .int .u64 a2] rfl (by (try simp only [List.map_toArray, List.map_cons, List.map_nil]); first | done | rfl | (simp only [List.length_drop, List.length_take]; rfl)) ?_; (with_reducible refine (lockgatelaw01_alu.calls kj7 2 a0 t173 a2 t181 _ A19.out).mono ?_); rintro e w' ⟨rfl, ⟨nd, rfl⟩⟩; refine ⟨_, rfl, ?_⟩) | ((with_reducible refine gate_callee (f := 17) rfl ?_); refine goesL_ (some 60) rfl rfl Try.func17 (by kernel_rfl) rfl #[.int .i64 0, .bool a0, .int .u64 t181, .int .u64 t174] rfl (by (try simp only [List.map_toArray, List.map_cons, List.map_nil]); first | done | rfl | (simp only [List.length_drop, List.length_take]; rfl)) ?_; (with_reducible refine (lockgatelaw01_alu.calls kj7 0 a0 t181 t174 t182 _ A20.out).mono ?_); rintro e w' ⟨rfl, ⟨nd, rfl⟩⟩; refine ⟨_, rfl, ?_⟩))
                  go_meet
                  case rel => exact ⟨_, (true), (by first | rfl | (simp; done) | (simp [*]; done)), H', ⟨by have := HJ7.out; first | omega | exact Nat.le_refl _⟩, by repeat (first | exact Drawn0.refl _ | apply Drawn0.step)⟩
              · rw [if_neg c26] at H
                have c26b0 : (t172 == 0) = false := beq_eq_false_iff_ne.mpr c26
                have c26b1 : (t172 != 0) = true := bne_iff_ne.mpr c26
                have H' := Aside0.mk H
                clear H
                go_wp2_with (first | ((with_reducible refine gate_callee (f := 17) rfl ?_); refine goesL_ (some 58) rfl rfl Try.func17 (by kernel_rfl) rfl #[.int .i64 2, .bool a0, .int .u64 t173, .int .u64 a2] rfl (by (try simp only [List.map_toArray, List.map_cons, List.map_nil]); first | done | rfl | (simp only [List.length_drop, List.length_take]; rfl)) ?_; (with_reducible refine (lockgatelaw01_alu.calls kj7 2 a0 t173 a2 t181 _ A19.out).mono ?_); rintro e w' ⟨rfl, ⟨nd, rfl⟩⟩; refine ⟨_, rfl, ?_⟩) | ((with_reducible refine gate_callee (f := 17) rfl ?_); refine goesL_ (some 60) rfl rfl Try.func17 (by kernel_rfl) rfl #[.int .i64 0, .bool a0, .int .u64 t181, .int .u64 t174] rfl (by (try simp only [List.map_toArray, List.map_cons, List.map_nil]); first | done | rfl | (simp only [List.length_drop, List.length_take]; rfl)) ?_; (with_reducible refine (lockgatelaw01_alu.calls kj7 0 a0 t181 t174 t182 _ A20.out).mono ?_); rintro e w' ⟨rfl, ⟨nd, rfl⟩⟩; refine ⟨_, rfl, ?_⟩))
                go_meet
                case rel => exact ⟨_, (false), (by first | rfl | (simp; done) | (simp [*]; done)), H', ⟨by have := HJ7.out; first | omega | exact Nat.le_refl _⟩, by repeat (first | exact Drawn0.refl _ | apply Drawn0.step)⟩
          · rw [if_neg c21] at H
            have c21b0 : (t182 == t171) = false := beq_eq_false_iff_ne.mpr c21
            have c21b1 : (t182 != t171) = true := bne_iff_ne.mpr c21
            (first | rw [c21b0] | (simp only [i64_w, i32_w]; rw [c21b0]) | skip)
            have H' := Aside0.mk H
            clear H
            go_wp2_with (first | ((with_reducible refine gate_callee (f := 17) rfl ?_); refine goesL_ (some 58) rfl rfl Try.func17 (by kernel_rfl) rfl #[.int .i64 2, .bool a0, .int .u64 t173, .int .u64 a2] rfl (by (try simp only [List.map_toArray, List.map_cons, List.map_nil]); first | done | rfl | (simp only [List.length_drop, List.length_take]; rfl)) ?_; (with_reducible refine (lockgatelaw01_alu.calls kj7 2 a0 t173 a2 t181 _ A19.out).mono ?_); rintro e w' ⟨rfl, ⟨nd, rfl⟩⟩; refine ⟨_, rfl, ?_⟩) | ((with_reducible refine gate_callee (f := 17) rfl ?_); refine goesL_ (some 60) rfl rfl Try.func17 (by kernel_rfl) rfl #[.int .i64 0, .bool a0, .int .u64 t181, .int .u64 t174] rfl (by (try simp only [List.map_toArray, List.map_cons, List.map_nil]); first | done | rfl | (simp only [List.length_drop, List.length_take]; rfl)) ?_; (with_reducible refine (lockgatelaw01_alu.calls kj7 0 a0 t181 t174 t182 _ A20.out).mono ?_); rintro e w' ⟨rfl, ⟨nd, rfl⟩⟩; refine ⟨_, rfl, ?_⟩))
            go_meet
            case rel => exact ⟨_, (true), (by first | rfl | (simp; done) | (simp [*]; done)), H', ⟨by have := HJ7.out; first | omega | exact Nat.le_refl _⟩, by repeat (first | exact Drawn0.refl _ | apply Drawn0.step)⟩
        case rest =>
          clear HC18
          try clear c1
          try clear c2
          try clear p2
          try clear c5
          try clear c7
          try clear c11
          try clear c11b0
          try clear c11b1
          try clear c14
          try clear c14b0
          try clear c14b1
          try clear c17
          try clear c21
          try clear c21b0
          try clear c21b1
          try clear c22
          try clear c22b0
          try clear c23
          try clear c23b0
          try clear c24
          try clear c24b0
          try clear c24b1
          try clear c25
          try clear c25b0
          try clear c25b1
          try clear c26
          try clear c26b0
          try clear c26b1
          try clear c27
          try clear c27b0
          try clear c27b1
          try clear p2
          obtain ⟨kq, x84_17, rfl, HA, HJ17, ⟨mc17, rfl⟩⟩ := hcut
          cases kq with
          | zero => exact absurd HA.out (by simp [lockgatelaw01_WordBack.j1])
          | succ kj17 =>
            have H := HA.out
            clear HA
            simp only [lockgatelaw01_WordBack.j1] at H
            by_cases c28 : x84_17 = true
            · subst c28
              have H1 : (some false) = some r := by rw [if_pos rfl] at H; exact H
              clear H
              have H := H1
              clear H1
              exact absurd ((Option.some.inj H).trans HRT.out) (by decide)
            · replace c28 := Bool.eq_false_iff.mpr c28
              subst c28
              have H1 : ((lockgatelaw01_alu.f kj17 4 a0 a1 a2).bind fun t183 => ((lockgatelaw01_alu.f kj17 5 a0 a1 a2).bind fun t184 => ((lockgatelaw01_alu.f kj17 0 a0 t183 t184).bind fun t185 => ((lockgatelaw01_alu.f kj17 0 a0 a1 a2).bind fun t186 => (if t185 = t186 then ((lockgatelaw01_known.f kj17).bind fun t187 => (some t187)) else (some false)))))) = some r := by rw [if_neg (show ¬ (false = true) by decide)] at H; exact H
              clear H
              have H := H1
              clear H1
              replace H := Option.bind_eq_some_iff.mp H
              obtain ⟨t183, A290, H⟩ := H
              replace H : ((lockgatelaw01_alu.f kj17 5 a0 a1 a2).bind fun t184 => ((lockgatelaw01_alu.f kj17 0 a0 t183 t184).bind fun t185 => ((lockgatelaw01_alu.f kj17 0 a0 a1 a2).bind fun t186 => (if t185 = t186 then ((lockgatelaw01_known.f kj17).bind fun t187 => (some t187)) else (some false))))) = some r := H
              have A29 := Aside0.mk A290
              clear A290
              replace H := Option.bind_eq_some_iff.mp H
              obtain ⟨t184, A300, H⟩ := H
              replace H : ((lockgatelaw01_alu.f kj17 0 a0 t183 t184).bind fun t185 => ((lockgatelaw01_alu.f kj17 0 a0 a1 a2).bind fun t186 => (if t185 = t186 then ((lockgatelaw01_known.f kj17).bind fun t187 => (some t187)) else (some false)))) = some r := H
              have A30 := Aside0.mk A300
              clear A300
              replace H := Option.bind_eq_some_iff.mp H
              obtain ⟨t185, A310, H⟩ := H
              replace H : ((lockgatelaw01_alu.f kj17 0 a0 a1 a2).bind fun t186 => (if t185 = t186 then ((lockgatelaw01_known.f kj17).bind fun t187 => (some t187)) else (some false))) = some r := H
              have A31 := Aside0.mk A310
              clear A310
              replace H := Option.bind_eq_some_iff.mp H
              obtain ⟨t186, A320, H⟩ := H
              replace H : (if t185 = t186 then ((lockgatelaw01_known.f kj17).bind fun t187 => (some t187)) else (some false)) = some r := H
              have A32 := Aside0.mk A320
              clear A320
              by_cases c33 : t185 = t186
              · rw [if_pos c33] at H
                have c33b0 : (t185 == t186) = true := beq_iff_eq.mpr c33
                have c33b1 : (t185 != t186) = false := bne_eq_false_iff_eq.mpr c33
                clear c33
                replace H := Option.bind_eq_some_iff.mp H
                obtain ⟨t187, A340, H⟩ := H
                replace H : (some t187) = some r := H
                have A34 := Aside0.mk A340
                clear A340
                obtain rfl := Option.some.inj H
                go_wp2_with (first | ((with_reducible refine gate_callee (f := 17) rfl ?_); refine goesL_ (some 89) rfl rfl Try.func17 (by kernel_rfl) rfl #[.int .i64 4, .bool a0, .int .u64 a1, .int .u64 a2] rfl (by (try simp only [List.map_toArray, List.map_cons, List.map_nil]); first | done | rfl | (simp only [List.length_drop, List.length_take]; rfl)) ?_; (with_reducible refine (lockgatelaw01_alu.calls kj17 4 a0 a1 a2 t183 _ A29.out).mono ?_); rintro e w' ⟨rfl, ⟨nd, rfl⟩⟩; refine ⟨_, rfl, ?_⟩) | ((with_reducible refine gate_callee (f := 17) rfl ?_); refine goesL_ (some 93) rfl rfl Try.func17 (by kernel_rfl) rfl #[.int .i64 5, .bool a0, .int .u64 a1, .int .u64 a2] rfl (by (try simp only [List.map_toArray, List.map_cons, List.map_nil]); first | done | rfl | (simp only [List.length_drop, List.length_take]; rfl)) ?_; (with_reducible refine (lockgatelaw01_alu.calls kj17 5 a0 a1 a2 t184 _ A30.out).mono ?_); rintro e w' ⟨rfl, ⟨nd, rfl⟩⟩; refine ⟨_, rfl, ?_⟩) | ((with_reducible refine gate_callee (f := 17) rfl ?_); refine goesL_ (some 94) rfl rfl Try.func17 (by kernel_rfl) rfl #[.int .i64 0, .bool a0, .int .u64 t183, .int .u64 t184] rfl (by (try simp only [List.map_toArray, List.map_cons, List.map_nil]); first | done | rfl | (simp only [List.length_drop, List.length_take]; rfl)) ?_; (with_reducible refine (lockgatelaw01_alu.calls kj17 0 a0 t183 t184 t185 _ A31.out).mono ?_); rintro e w' ⟨rfl, ⟨nd, rfl⟩⟩; refine ⟨_, rfl, ?_⟩) | ((with_reducible refine gate_callee (f := 17) rfl ?_); refine goesL_ (some 98) rfl rfl Try.func17 (by kernel_rfl) rfl #[.int .i64 0, .bool a0, .int .u64 a1, .int .u64 a2] rfl (by (try simp only [List.map_toArray, List.map_cons, List.map_nil]); first | done | rfl | (simp only [List.length_drop, List.length_take]; rfl)) ?_; (with_reducible refine (lockgatelaw01_alu.calls kj17 0 a0 a1 a2 t186 _ A32.out).mono ?_); rintro e w' ⟨rfl, ⟨nd, rfl⟩⟩; refine ⟨_, rfl, ?_⟩) | (go_at_call 14; (with_reducible refine (lockgatelaw01_known.calls kj17  t187 _ A34.out).mono ?_); rintro e w' ⟨rfl, ⟨nd, rfl⟩⟩))
                go_ret
                exact ⟨by first | rfl | (simp; done) | (simp [*]; done), by repeat (first | exact Drawn0.refl _ | apply Drawn0.step)⟩
              · rw [if_neg c33] at H
                have c33b0 : (t185 == t186) = false := beq_eq_false_iff_ne.mpr c33
                have c33b1 : (t185 != t186) = true := bne_iff_ne.mpr c33
                exact absurd ((Option.some.inj H).trans HRT.out) (by decide)

end Go.Proofs.Ytbionehmfbmcdaa.PA
