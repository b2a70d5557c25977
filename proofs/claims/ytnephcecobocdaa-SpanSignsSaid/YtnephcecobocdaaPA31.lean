-- PRINTED by print.py (a twelfth state) out of the translation. Not trusted: Lean checks it.
import Derived.Test.YtnephcecobocdaaPA0
import Derived.Test.YtnephcecobocdaaSq
import Derived.Test.YtnephcecobocdaaPA5
import Derived.Test.YtnephcecobocdaaPA7
import Derived.Test.YtnephcecobocdaaPA8
import Derived.Test.YtnephcecobocdaaPA26
import Derived.Test.YtnephcecobocdaaPA27
namespace Go.Proofs.Ytnephcecobocdaa.PA
open Go.RowKit Go.Proofs.YtnephcecobocdaaW.PrintWords Go.Proofs.YtnephcecobocdaaW.PrintLast Go.Proofs.YtnephcecobocdaaW.PrintMore
attribute [local go_sem] max2_int min2_int max_two min_two max_three min_three max_four min_four   -- for this text's walks alone
set_option linter.unusedVariables false
set_option linter.unusedSimpArgs false

/-! ### lockgatelaw04_SpanSigns: function 5 -/
def lockgatelaw04_SpanSigns.f (k : Nat) (a0_0 : Int) (a0_1 : Int) (a1_0 : Int) (a1_1 : Int) (a2 : Int) (a3 : Int) (a4 : Int) : Option (Bool) := (lockgatelaw04_Ss.f a0_0 a0_1 a1_0 a1_1).bind fun bt217 => ((lockgatelaw04_soft.f bt217.1 bt217.2.1 a3).bind fun t223 => ((lockgatelaw04_soft.f bt217.2.2.1 bt217.2.2.2 a4).bind fun t224 => ((span_SIn.f bt217.1 bt217.2.1 t223).bind fun t225 => (if t225 = true then ((span_SAdd.f bt217.1 bt217.2.1 bt217.2.2.1 bt217.2.2.2).bind fun bt226 => ((span_SIn.f bt226.1 bt226.2 (IntKind.u64.wrap (t223 + t224))).bind fun t228 => (if t228 = true then ((span_SSub.f bt217.1 bt217.2.1 bt217.2.2.1 bt217.2.2.2).bind fun bt229 => ((span_SIn.f bt229.1 bt229.2 (IntKind.u64.wrap (t223 - t224))).bind fun t231 => (if t231 = true then ((span_SArsh.f bt217.1 bt217.2.1 a2).bind fun bt232 => (if 0 ≤ (IntKind.u64.wrap (Go.bits .and .i64 a2 63)) then ((span_SIn.f bt232.1 bt232.2 (IntKind.u64.wrap (shr .i64 (wrap64 (t223)) (IntKind.u64.wrap (Go.bits .and .i64 a2 63))))).bind fun t234 => (if t234 = true then ((span_ToU.f bt217.1 bt217.2.1).bind fun bt235 => ((span_UIn.f bt235.1 bt235.2 t223).bind fun t237 => (if t237 = true then ((lockgatelaw04_works.f k).bind fun t238 => (some t238)) else (some false)))) else (some false))) else (none))) else (some false)))) else (some false)))) else (some false)))))
theorem lockgatelaw04_SpanSigns.mono : ∀ a0 a1 a2 a3 a4 a5 a6 k, LeO (lockgatelaw04_SpanSigns.f k a0 a1 a2 a3 a4 a5 a6) (lockgatelaw04_SpanSigns.f (k + 1) a0 a1 a2 a3 a4 a5 a6) := by
 intro a0 a1 a2 a3 a4 a5 a6 k
 unfold lockgatelaw04_SpanSigns.f
 repeat' first
  | (with_reducible exact lockgatelaw04_works.mono _)
  | (with_reducible exact LeO.refl _)
  | (with_reducible exact LeO.none _)
  | (with_reducible refine LeO.ite ?_ ?_)
  | (with_reducible refine LeO.bind ?_ (fun _ => ?_))
  | exact lockgatelaw04_works.mono _
  | exact LeO.none _
  | refine LeO.ite ?_ ?_
  | refine LeO.bind ?_ (fun _ => ?_)
set_option maxHeartbeats 8000000 in
set_option maxRecDepth 100000 in
theorem lockgatelaw04_SpanSigns.calls (k : Nat) (a0_0 : Int) (a0_1 : Int) (a1_0 : Int) (a1_1 : Int) (a2 : Int) (a3 : Int) (a4 : Int) (r : Bool) (w : World) (HRT : Aside0 (r = true)) (h : lockgatelaw04_SpanSigns.f k a0_0 a0_1 a1_0 a1_1 a2 a3 a4 = some r) :
 Calls Try.prog 5 #[.agg #[.int .i64 a0_0, .int .i64 a0_1], .agg #[.int .i64 a1_0, .int .i64 a1_1], .int .i64 a2, .int .u64 a3, .int .u64 a4] w fun e w' => e = .returned (.bool r) ∧ Below w.heap.size w w' := by
 have hu28 := Try.underlying28
 have HB := Aside0.mk (Below.refl w.heap.size w)
 have H : ((lockgatelaw04_Ss.f a0_0 a0_1 a1_0 a1_1).bind fun bt217 => ((lockgatelaw04_soft.f bt217.1 bt217.2.1 a3).bind fun t223 => ((lockgatelaw04_soft.f bt217.2.2.1 bt217.2.2.2 a4).bind fun t224 => ((span_SIn.f bt217.1 bt217.2.1 t223).bind fun t225 => (if t225 = true then ((span_SAdd.f bt217.1 bt217.2.1 bt217.2.2.1 bt217.2.2.2).bind fun bt226 => ((span_SIn.f bt226.1 bt226.2 (IntKind.u64.wrap (t223 + t224))).bind fun t228 => (if t228 = true then ((span_SSub.f bt217.1 bt217.2.1 bt217.2.2.1 bt217.2.2.2).bind fun bt229 => ((span_SIn.f bt229.1 bt229.2 (IntKind.u64.wrap (t223 - t224))).bind fun t231 => (if t231 = true then ((span_SArsh.f bt217.1 bt217.2.1 a2).bind fun bt232 => (if 0 ≤ (IntKind.u64.wrap (Go.bits .and .i64 a2 63)) then ((span_SIn.f bt232.1 bt232.2 (IntKind.u64.wrap (shr .i64 (wrap64 (t223)) (IntKind.u64.wrap (Go.bits .and .i64 a2 63))))).bind fun t234 => (if t234 = true then ((span_ToU.f bt217.1 bt217.2.1).bind fun bt235 => ((span_UIn.f bt235.1 bt235.2 t223).bind fun t237 => (if t237 = true then ((lockgatelaw04_works.f k).bind fun t238 => (some t238)) else (some false)))) else (some false))) else (none))) else (some false)))) else (some false)))) else (some false)))))) = some r := h
 clear h
 replace H := Option.bind_eq_some_iff.mp H
 obtain ⟨⟨t217, t218, t219, t220⟩, A60, H⟩ := H
 replace H : ((lockgatelaw04_soft.f t217 t218 a3).bind fun t223 => ((lockgatelaw04_soft.f t219 t220 a4).bind fun t224 => ((span_SIn.f t217 t218 t223).bind fun t225 => (if t225 = true then ((span_SAdd.f t217 t218 t219 t220).bind fun bt226 => ((span_SIn.f bt226.1 bt226.2 (IntKind.u64.wrap (t223 + t224))).bind fun t228 => (if t228 = true then ((span_SSub.f t217 t218 t219 t220).bind fun bt229 => ((span_SIn.f bt229.1 bt229.2 (IntKind.u64.wrap (t223 - t224))).bind fun t231 => (if t231 = true then ((span_SArsh.f t217 t218 a2).bind fun bt232 => (if 0 ≤ (IntKind.u64.wrap (Go.bits .and .i64 a2 63)) then ((span_SIn.f bt232.1 bt232.2 (IntKind.u64.wrap (shr .i64 (wrap64 (t223)) (IntKind.u64.wrap (Go.bits .and .i64 a2 63))))).bind fun t234 => (if t234 = true then ((span_ToU.f t217 t218).bind fun bt235 => ((span_UIn.f bt235.1 bt235.2 t223).bind fun t237 => (if t237 = true then ((lockgatelaw04_works.f k).bind fun t238 => (some t238)) else (some false)))) else (some false))) else (none))) else (some false)))) else (some false)))) else (some false))))) = some r := H
 have A6 := Aside0.mk A60
 clear A60
 replace H := Option.bind_eq_some_iff.mp H
 obtain ⟨t223, A70, H⟩ := H
 replace H : ((lockgatelaw04_soft.f t219 t220 a4).bind fun t224 => ((span_SIn.f t217 t218 t223).bind fun t225 => (if t225 = true then ((span_SAdd.f t217 t218 t219 t220).bind fun bt226 => ((span_SIn.f bt226.1 bt226.2 (IntKind.u64.wrap (t223 + t224))).bind fun t228 => (if t228 = true then ((span_SSub.f t217 t218 t219 t220).bind fun bt229 => ((span_SIn.f bt229.1 bt229.2 (IntKind.u64.wrap (t223 - t224))).bind fun t231 => (if t231 = true then ((span_SArsh.f t217 t218 a2).bind fun bt232 => (if 0 ≤ (IntKind.u64.wrap (Go.bits .and .i64 a2 63)) then ((span_SIn.f bt232.1 bt232.2 (IntKind.u64.wrap (shr .i64 (wrap64 (t223)) (IntKind.u64.wrap (Go.bits .and .i64 a2 63))))).bind fun t234 => (if t234 = true then ((span_ToU.f t217 t218).bind fun bt235 => ((span_UIn.f bt235.1 bt235.2 t223).bind fun t237 => (if t237 = true then ((lockgatelaw04_works.f k).bind fun t238 => (some t238)) else (some false)))) else (some false))) else (none))) else (some false)))) else (some false)))) else (some false)))) = some r := H
 have A7 := Aside0.mk A70
 clear A70
 replace H := Option.bind_eq_some_iff.mp H
 obtain ⟨t224, A80, H⟩ := H
 replace H : ((span_SIn.f t217 t218 t223).bind fun t225 => (if t225 = true then ((span_SAdd.f t217 t218 t219 t220).bind fun bt226 => ((span_SIn.f bt226.1 bt226.2 (IntKind.u64.wrap (t223 + t224))).bind fun t228 => (if t228 = true then ((span_SSub.f t217 t218 t219 t220).bind fun bt229 => ((span_SIn.f bt229.1 bt229.2 (IntKind.u64.wrap (t223 - t224))).bind fun t231 => (if t231 = true then ((span_SArsh.f t217 t218 a2).bind fun bt232 => (if 0 ≤ (IntKind.u64.wrap (Go.bits .and .i64 a2 63)) then ((span_SIn.f bt232.1 bt232.2 (IntKind.u64.wrap (shr .i64 (wrap64 (t223)) (IntKind.u64.wrap (Go.bits .and .i64 a2 63))))).bind fun t234 => (if t234 = true then ((span_ToU.f t217 t218).bind fun bt235 => ((span_UIn.f bt235.1 bt235.2 t223).bind fun t237 => (if t237 = true then ((lockgatelaw04_works.f k).bind fun t238 => (some t238)) else (some false)))) else (some false))) else (none))) else (some false)))) else (some false)))) else (some false))) = some r := H
 have A8 := Aside0.mk A80
 clear A80
 replace H := Option.bind_eq_some_iff.mp H
 obtain ⟨t225, A90, H⟩ := H
 replace H : (if t225 = true then ((span_SAdd.f t217 t218 t219 t220).bind fun bt226 => ((span_SIn.f bt226.1 bt226.2 (IntKind.u64.wrap (t223 + t224))).bind fun t228 => (if t228 = true then ((span_SSub.f t217 t218 t219 t220).bind fun bt229 => ((span_SIn.f bt229.1 bt229.2 (IntKind.u64.wrap (t223 - t224))).bind fun t231 => (if t231 = true then ((span_SArsh.f t217 t218 a2).bind fun bt232 => (if 0 ≤ (IntKind.u64.wrap (Go.bits .and .i64 a2 63)) then ((span_SIn.f bt232.1 bt232.2 (IntKind.u64.wrap (shr .i64 (wrap64 (t223)) (IntKind.u64.wrap (Go.bits .and .i64 a2 63))))).bind fun t234 => (if t234 = true then ((span_ToU.f t217 t218).bind fun bt235 => ((span_UIn.f bt235.1 bt235.2 t223).bind fun t237 => (if t237 = true then ((lockgatelaw04_works.f k).bind fun t238 => (some t238)) else (some false)))) else (some false))) else (none))) else (some false)))) else (some false)))) else (some false)) = some r := H
 have A9 := Aside0.mk A90
 clear A90
 by_cases c10 : t225 = true
 ·subst c10
  have H1 : ((span_SAdd.f t217 t218 t219 t220).bind fun bt226 => ((span_SIn.f bt226.1 bt226.2 (IntKind.u64.wrap (t223 + t224))).bind fun t228 => (if t228 = true then ((span_SSub.f t217 t218 t219 t220).bind fun bt229 => ((span_SIn.f bt229.1 bt229.2 (IntKind.u64.wrap (t223 - t224))).bind fun t231 => (if t231 = true then ((span_SArsh.f t217 t218 a2).bind fun bt232 => (if 0 ≤ (IntKind.u64.wrap (Go.bits .and .i64 a2 63)) then ((span_SIn.f bt232.1 bt232.2 (IntKind.u64.wrap (shr .i64 (wrap64 (t223)) (IntKind.u64.wrap (Go.bits .and .i64 a2 63))))).bind fun t234 => (if t234 = true then ((span_ToU.f t217 t218).bind fun bt235 => ((span_UIn.f bt235.1 bt235.2 t223).bind fun t237 => (if t237 = true then ((lockgatelaw04_works.f k).bind fun t238 => (some t238)) else (some false)))) else (some false))) else (none))) else (some false)))) else (some false)))) = some r := by rw [if_pos rfl] at H; exact H
  clear H
  have H := H1
  clear H1
  replace H := Option.bind_eq_some_iff.mp H
  obtain ⟨⟨t226, t227⟩, A110, H⟩ := H
  replace H : ((span_SIn.f t226 t227 (IntKind.u64.wrap (t223 + t224))).bind fun t228 => (if t228 = true then ((span_SSub.f t217 t218 t219 t220).bind fun bt229 => ((span_SIn.f bt229.1 bt229.2 (IntKind.u64.wrap (t223 - t224))).bind fun t231 => (if t231 = true then ((span_SArsh.f t217 t218 a2).bind fun bt232 => (if 0 ≤ (IntKind.u64.wrap (Go.bits .and .i64 a2 63)) then ((span_SIn.f bt232.1 bt232.2 (IntKind.u64.wrap (shr .i64 (wrap64 (t223)) (IntKind.u64.wrap (Go.bits .and .i64 a2 63))))).bind fun t234 => (if t234 = true then ((span_ToU.f t217 t218).bind fun bt235 => ((span_UIn.f bt235.1 bt235.2 t223).bind fun t237 => (if t237 = true then ((lockgatelaw04_works.f k).bind fun t238 => (some t238)) else (some false)))) else (some false))) else (none))) else (some false)))) else (some false))) = some r := H
  have A11 := Aside0.mk A110
  clear A110
  replace H := Option.bind_eq_some_iff.mp H
  obtain ⟨t228, A120, H⟩ := H
  replace H : (if t228 = true then ((span_SSub.f t217 t218 t219 t220).bind fun bt229 => ((span_SIn.f bt229.1 bt229.2 (IntKind.u64.wrap (t223 - t224))).bind fun t231 => (if t231 = true then ((span_SArsh.f t217 t218 a2).bind fun bt232 => (if 0 ≤ (IntKind.u64.wrap (Go.bits .and .i64 a2 63)) then ((span_SIn.f bt232.1 bt232.2 (IntKind.u64.wrap (shr .i64 (wrap64 (t223)) (IntKind.u64.wrap (Go.bits .and .i64 a2 63))))).bind fun t234 => (if t234 = true then ((span_ToU.f t217 t218).bind fun bt235 => ((span_UIn.f bt235.1 bt235.2 t223).bind fun t237 => (if t237 = true then ((lockgatelaw04_works.f k).bind fun t238 => (some t238)) else (some false)))) else (some false))) else (none))) else (some false)))) else (some false)) = some r := H
  have A12 := Aside0.mk A120
  clear A120
  by_cases c13 : t228 = true
  ·subst c13
   have H1 : ((span_SSub.f t217 t218 t219 t220).bind fun bt229 => ((span_SIn.f bt229.1 bt229.2 (IntKind.u64.wrap (t223 - t224))).bind fun t231 => (if t231 = true then ((span_SArsh.f t217 t218 a2).bind fun bt232 => (if 0 ≤ (IntKind.u64.wrap (Go.bits .and .i64 a2 63)) then ((span_SIn.f bt232.1 bt232.2 (IntKind.u64.wrap (shr .i64 (wrap64 (t223)) (IntKind.u64.wrap (Go.bits .and .i64 a2 63))))).bind fun t234 => (if t234 = true then ((span_ToU.f t217 t218).bind fun bt235 => ((span_UIn.f bt235.1 bt235.2 t223).bind fun t237 => (if t237 = true then ((lockgatelaw04_works.f k).bind fun t238 => (some t238)) else (some false)))) else (some false))) else (none))) else (some false)))) = some r := by rw [if_pos rfl] at H; exact H
   clear H
   have H := H1
   clear H1
   replace H := Option.bind_eq_some_iff.mp H
   obtain ⟨⟨t229, t230⟩, A140, H⟩ := H
   replace H : ((span_SIn.f t229 t230 (IntKind.u64.wrap (t223 - t224))).bind fun t231 => (if t231 = true then ((span_SArsh.f t217 t218 a2).bind fun bt232 => (if 0 ≤ (IntKind.u64.wrap (Go.bits .and .i64 a2 63)) then ((span_SIn.f bt232.1 bt232.2 (IntKind.u64.wrap (shr .i64 (wrap64 (t223)) (IntKind.u64.wrap (Go.bits .and .i64 a2 63))))).bind fun t234 => (if t234 = true then ((span_ToU.f t217 t218).bind fun bt235 => ((span_UIn.f bt235.1 bt235.2 t223).bind fun t237 => (if t237 = true then ((lockgatelaw04_works.f k).bind fun t238 => (some t238)) else (some false)))) else (some false))) else (none))) else (some false))) = some r := H
   have A14 := Aside0.mk A140
   clear A140
   replace H := Option.bind_eq_some_iff.mp H
   obtain ⟨t231, A150, H⟩ := H
   replace H : (if t231 = true then ((span_SArsh.f t217 t218 a2).bind fun bt232 => (if 0 ≤ (IntKind.u64.wrap (Go.bits .and .i64 a2 63)) then ((span_SIn.f bt232.1 bt232.2 (IntKind.u64.wrap (shr .i64 (wrap64 (t223)) (IntKind.u64.wrap (Go.bits .and .i64 a2 63))))).bind fun t234 => (if t234 = true then ((span_ToU.f t217 t218).bind fun bt235 => ((span_UIn.f bt235.1 bt235.2 t223).bind fun t237 => (if t237 = true then ((lockgatelaw04_works.f k).bind fun t238 => (some t238)) else (some false)))) else (some false))) else (none))) else (some false)) = some r := H
   have A15 := Aside0.mk A150
   clear A150
   by_cases c16 : t231 = true
   ·subst c16
    have H1 : ((span_SArsh.f t217 t218 a2).bind fun bt232 => (if 0 ≤ (IntKind.u64.wrap (Go.bits .and .i64 a2 63)) then ((span_SIn.f bt232.1 bt232.2 (IntKind.u64.wrap (shr .i64 (wrap64 (t223)) (IntKind.u64.wrap (Go.bits .and .i64 a2 63))))).bind fun t234 => (if t234 = true then ((span_ToU.f t217 t218).bind fun bt235 => ((span_UIn.f bt235.1 bt235.2 t223).bind fun t237 => (if t237 = true then ((lockgatelaw04_works.f k).bind fun t238 => (some t238)) else (some false)))) else (some false))) else (none))) = some r := by rw [if_pos rfl] at H; exact H
    clear H
    have H := H1
    clear H1
    replace H := Option.bind_eq_some_iff.mp H
    obtain ⟨⟨t232, t233⟩, A170, H⟩ := H
    replace H : (if 0 ≤ (IntKind.u64.wrap (Go.bits .and .i64 a2 63)) then ((span_SIn.f t232 t233 (IntKind.u64.wrap (shr .i64 (wrap64 (t223)) (IntKind.u64.wrap (Go.bits .and .i64 a2 63))))).bind fun t234 => (if t234 = true then ((span_ToU.f t217 t218).bind fun bt235 => ((span_UIn.f bt235.1 bt235.2 t223).bind fun t237 => (if t237 = true then ((lockgatelaw04_works.f k).bind fun t238 => (some t238)) else (some false)))) else (some false))) else (none)) = some r := H
    have A17 := Aside0.mk A170
    clear A170
    obtain ⟨ji18, hji18⟩ : ∃ j_ : Int, (IntKind.u64.wrap (Go.bits .and .i64 a2 63)) = j_ := ⟨_, rfl⟩
    replace H : (if 0 ≤ (ji18) then ((span_SIn.f t232 t233 (IntKind.u64.wrap (shr .i64 (wrap64 (t223)) (ji18)))).bind fun t234 => (if t234 = true then ((span_ToU.f t217 t218).bind fun bt235 => ((span_UIn.f bt235.1 bt235.2 t223).bind fun t237 => (if t237 = true then ((lockgatelaw04_works.f k).bind fun t238 => (some t238)) else (some false)))) else (some false))) else (none)) = some r := by first | (rw [hji18] at H; exact H) | (simp only [hji18] at H ⊢; exact H)
    (try rw [hji18] at A6)
    (try rw [hji18] at A7)
    (try rw [hji18] at A8)
    (try rw [hji18] at A9)
    (try rw [hji18] at A11)
    (try rw [hji18] at A12)
    (try rw [hji18] at A14)
    (try rw [hji18] at A15)
    (try rw [hji18] at A17)
    by_cases c19 : 0 ≤ (ji18)
    ·rw [if_pos c19] at H
     have c19b0 := eq_true c19
     have c19b1 : decide (0 ≤ (ji18)) = true := decide_eq_true c19
     clear c19
     obtain ⟨ji20, hji20⟩ : ∃ j_ : Int, (shr .i64 (wrap64 (t223)) (ji18)) = j_ := ⟨_, rfl⟩
     replace H : ((span_SIn.f t232 t233 (IntKind.u64.wrap (ji20))).bind fun t234 => (if t234 = true then ((span_ToU.f t217 t218).bind fun bt235 => ((span_UIn.f bt235.1 bt235.2 t223).bind fun t237 => (if t237 = true then ((lockgatelaw04_works.f k).bind fun t238 => (some t238)) else (some false)))) else (some false))) = some r := by first | (rw [hji20] at H; exact H) | (simp only [hji20] at H ⊢; exact H)
     (try rw [hji20] at A6)
     (try rw [hji20] at A7)
     (try rw [hji20] at A8)
     (try rw [hji20] at A9)
     (try rw [hji20] at A11)
     (try rw [hji20] at A12)
     (try rw [hji20] at A14)
     (try rw [hji20] at A15)
     (try rw [hji20] at A17)
     have hji20_ : ((wrap64 (t223)) / 2 ^ min (ji18).toNat 64) = ji20 := hji20
     have hji20z : (ji18) ≤ 64 → ((wrap64 (t223)) / 2 ^ (ji18).toNat) = ji20 := shr_small hji20
     replace H := Option.bind_eq_some_iff.mp H
     obtain ⟨t234, A210, H⟩ := H
     replace H : (if t234 = true then ((span_ToU.f t217 t218).bind fun bt235 => ((span_UIn.f bt235.1 bt235.2 t223).bind fun t237 => (if t237 = true then ((lockgatelaw04_works.f k).bind fun t238 => (some t238)) else (some false)))) else (some false)) = some r := H
     have A21 := Aside0.mk A210
     clear A210
     by_cases c22 : t234 = true
     ·subst c22
      have H1 : ((span_ToU.f t217 t218).bind fun bt235 => ((span_UIn.f bt235.1 bt235.2 t223).bind fun t237 => (if t237 = true then ((lockgatelaw04_works.f k).bind fun t238 => (some t238)) else (some false)))) = some r := by rw [if_pos rfl] at H; exact H
      clear H
      have H := H1
      clear H1
      replace H := Option.bind_eq_some_iff.mp H
      obtain ⟨⟨t235, t236⟩, A230, H⟩ := H
      replace H : ((span_UIn.f t235 t236 t223).bind fun t237 => (if t237 = true then ((lockgatelaw04_works.f k).bind fun t238 => (some t238)) else (some false))) = some r := H
      have A23 := Aside0.mk A230
      clear A230
      replace H := Option.bind_eq_some_iff.mp H
      obtain ⟨t237, A240, H⟩ := H
      replace H : (if t237 = true then ((lockgatelaw04_works.f k).bind fun t238 => (some t238)) else (some false)) = some r := H
      have A24 := Aside0.mk A240
      clear A240
      by_cases c25 : t237 = true
      ·subst c25
       have H1 : ((lockgatelaw04_works.f k).bind fun t238 => (some t238)) = some r := by rw [if_pos rfl] at H; exact H
       clear H
       have H := H1
       clear H1
       replace H := Option.bind_eq_some_iff.mp H
       obtain ⟨t238, A260, H⟩ := H
       replace H : (some t238) = some r := H
       have A26 := Aside0.mk A260
       clear A260
       obtain rfl := Option.some.inj H
       go_enter Try.func5, Try.ntmps5
       go_wp2_with (first | ((with_reducible refine gate_dst (N := 5) rfl ?_); refine box_event ?hg (N := 5) ?hd (cs := #[.int .i64 a0_0, .int .i64 a0_1]) (t := 28) ?hr ?_; (case hd => rfl); (case hg => rfl); (case hr => first | (go_simp; done) | (go_simp; rfl)); intro gb215 hg w27 hbox hb; have BK215 := Aside0.mk (hbox); have GW215 := bg_ hg; have GE215 := GW215; replace HB := bl_ hb; clear hb hbox hg; have hcqgb215_0 := c0_ BK215; have hfqgb215_0 := fz_ BK215 0; have hcqgb215_1 := c1_ BK215; have hfqgb215_1 := fz_ BK215 1) | ((with_reducible refine gate_dst (N := 6) rfl ?_); refine box_event ?hg (N := 6) ?hd (cs := #[.int .i64 a1_0, .int .i64 a1_1]) (t := 28) ?hr ?_; (case hd => rfl); (case hg => rfl); (case hr => first | (go_simp; done) | (go_simp; rfl)); intro gb216 hg w28 hbox hb; have BK216 := Aside0.mk (hbox); have GW216 := bg_ hg; have GE216 := GW216; have NB215_216 := bm_ hg BK215; have NB216_215 := bn_ hg BK215; replace BK215 := bb_ hb BK215; replace HB := bl_ hb; clear hb hbox hg; have hcqgb216_0 := c0_ BK216; have hfqgb216_0 := fz_ BK216 0; have hcqgb216_1 := c1_ BK216; have hfqgb216_1 := fz_ BK216 1; have hnb29 := NB215_216.out; have hnc29 := NB216_215.out; have hcz30_0 := c0_ BK215; have hcz30_1 := c1_ BK215; have hfz30_0 := fz_ BK215 0; have hfz30_1 := fz_ BK215 1; have hcz31_0 := c0_ BK216; have hcz31_1 := c1_ BK216; have hfz31_0 := fz_ BK216 0; have hfz31_1 := fz_ BK216 1) | ((with_reducible refine gate_callee (f := 17) rfl ?_); refine goesL_ (some 18) rfl rfl Try.func17 (by kernel_rfl) rfl #[.agg #[.int .i64 a0_0, .int .i64 a0_1], .agg #[.int .i64 a1_0, .int .i64 a1_1]] rfl (by (try simp only [List.map_toArray, List.map_cons, List.map_nil]); first | done | rfl) ?_; (with_reducible refine (lockgatelaw04_Ss.calls a0_0 a0_1 a1_0 a1_1 t217 t218 t219 t220 _ A6.out).mono ?_); rintro e w32 ⟨rfl, hb⟩; refine ⟨_, rfl, ?_⟩; replace BK215 := bb_ hb BK215; replace BK216 := bb_ hb BK216; replace HB := bl_ hb; (try clear hb); (try clear hb2); (try clear hk); (try clear hi)) | ((with_reducible refine gate_dst (N := 11) rfl ?_); refine box_event ?hg (N := 11) ?hd (cs := #[.int .i64 0, .int .i64 0]) (t := 28) ?hr ?_; (case hd => rfl); (case hg => rfl); (case hr => first | (go_simp; done) | (go_simp; rfl)); intro gb221 hg w33 hbox hb; have BK221 := Aside0.mk (hbox); have GW221 := bg_ hg; have GE221 := GW221; have NB215_221 := bm_ hg BK215; have NB221_215 := bn_ hg BK215; have NB216_221 := bm_ hg BK216; have NB221_216 := bn_ hg BK216; replace BK215 := bb_ hb BK215; replace BK216 := bb_ hb BK216; replace HB := bl_ hb; clear hb hbox hg; have hcqgb221_0 := c0_ BK221; have hfqgb221_0 := fz_ BK221 0; have hcqgb221_1 := c1_ BK221; have hfqgb221_1 := fz_ BK221 1) | ((with_reducible refine gate_dst (N := 12) rfl ?_); refine box_event ?hg (N := 12) ?hd (cs := #[.int .i64 0, .int .i64 0]) (t := 28) ?hr ?_; (case hd => rfl); (case hg => rfl); (case hr => first | (go_simp; done) | (go_simp; rfl)); intro gb222 hg w34 hbox hb; have BK222 := Aside0.mk (hbox); have GW222 := bg_ hg; have GE222 := GW222; have NB215_222 := bm_ hg BK215; have NB222_215 := bn_ hg BK215; have NB216_222 := bm_ hg BK216; have NB222_216 := bn_ hg BK216; have NB221_222 := bm_ hg BK221; have NB222_221 := bn_ hg BK221; replace BK215 := bb_ hb BK215; replace BK216 := bb_ hb BK216; replace BK221 := bb_ hb BK221; replace HB := bl_ hb; clear hb hbox hg; have hcqgb222_0 := c0_ BK222; have hfqgb222_0 := fz_ BK222 0; have hcqgb222_1 := c1_ BK222; have hfqgb222_1 := fz_ BK222 1; have hnb35 := NB221_215.out; have hnc35 := NB215_221.out; have hnb36 := NB221_216.out; have hnc36 := NB216_221.out; have hnb37 := NB221_222.out; have hnc37 := NB222_221.out; have hcz38_0 := c0_ BK221; have hcz38_1 := c1_ BK221; have hfz38_0 := fz_ BK221 0; have hfz38_1 := fz_ BK221 1; have hnb39 := NB222_215.out; have hnc39 := NB215_222.out; have hnb40 := NB222_216.out; have hnc40 := NB216_222.out; have hcz41_0 := c0_ BK222; have hcz41_1 := c1_ BK222; have hfz41_0 := fz_ BK222 0; have hfz41_1 := fz_ BK222 1) | ((with_reducible refine gate_callee (f := 18) rfl ?_); refine goesL_ (some 23) rfl rfl Try.func18 (by kernel_rfl) rfl #[.agg #[.int .i64 t217, .int .i64 t218], .int .u64 a3] rfl (by (try simp only [List.map_toArray, List.map_cons, List.map_nil]); first | done | rfl) ?_; (with_reducible refine (lockgatelaw04_soft.calls t217 t218 a3 t223 _ A7.out).mono ?_); rintro e w42 ⟨rfl, hb⟩; refine ⟨_, rfl, ?_⟩; replace BK215 := Aside0.mk (blk_below (g := gb215) (o := .cells #[.int .i64 a0_0, .int .i64 a0_1] 28 (0, 0)) (by (with_reducible repeat (first | apply bN_ | apply bD_ | apply bA_)); refine blk_far ?_ NB215_222.out _; (with_reducible repeat (first | apply bN_ | apply bD_ | apply bA_)); refine blk_far ?_ NB215_222.out _; (with_reducible repeat (first | apply bN_ | apply bD_ | apply bA_)); refine blk_far ?_ NB215_221.out _; (with_reducible repeat (first | apply bN_ | apply bD_ | apply bA_)); refine blk_far ?_ NB215_221.out _; (with_reducible repeat (first | apply bN_ | apply bD_ | apply bA_)); exact BK215.out) hb); replace BK216 := Aside0.mk (blk_below (g := gb216) (o := .cells #[.int .i64 a1_0, .int .i64 a1_1] 28 (0, 0)) (by (with_reducible repeat (first | apply bN_ | apply bD_ | apply bA_)); refine blk_far ?_ NB216_222.out _; (with_reducible repeat (first | apply bN_ | apply bD_ | apply bA_)); refine blk_far ?_ NB216_222.out _; (with_reducible repeat (first | apply bN_ | apply bD_ | apply bA_)); refine blk_far ?_ NB216_221.out _; (with_reducible repeat (first | apply bN_ | apply bD_ | apply bA_)); refine blk_far ?_ NB216_221.out _; (with_reducible repeat (first | apply bN_ | apply bD_ | apply bA_)); exact BK216.out) hb); replace BK221 := Aside0.mk (blk_below (g := gb221) (o := .cells #[.int .i64 t217, .int .i64 t218] 28 (0, 0)) (by (with_reducible repeat (first | apply bN_ | apply bD_ | apply bA_)); refine blk_far ?_ NB221_222.out _; (with_reducible repeat (first | apply bN_ | apply bD_ | apply bA_)); refine blk_far ?_ NB221_222.out _; (with_reducible repeat (first | apply bN_ | apply bD_ | apply bA_)); refine blk_put (cs := #[.int .i64 t217, .int .i64 0]) ?_ 1 _ rfl; (with_reducible repeat (first | apply bN_ | apply bD_ | apply bA_)); refine blk_put (cs := #[.int .i64 0, .int .i64 0]) ?_ 0 _ rfl; (with_reducible repeat (first | apply bN_ | apply bD_ | apply bA_)); exact BK221.out) hb); replace BK222 := Aside0.mk (blk_below (g := gb222) (o := .cells #[.int .i64 t219, .int .i64 t220] 28 (0, 0)) (by (with_reducible repeat (first | apply bN_ | apply bD_ | apply bA_)); refine blk_put (cs := #[.int .i64 t219, .int .i64 0]) ?_ 1 _ rfl; (with_reducible repeat (first | apply bN_ | apply bD_ | apply bA_)); refine blk_put (cs := #[.int .i64 0, .int .i64 0]) ?_ 0 _ rfl; (with_reducible repeat (first | apply bN_ | apply bD_ | apply bA_)); refine blk_far ?_ NB222_221.out _; (with_reducible repeat (first | apply bN_ | apply bD_ | apply bA_)); refine blk_far ?_ NB222_221.out _; (with_reducible repeat (first | apply bN_ | apply bD_ | apply bA_)); exact BK222.out) hb); replace HB := bl_ hb; (try clear hb); (try clear hb2); (try clear hk); (try clear hi); have hcz43_0 := c0_ BK222; have hcz43_1 := c1_ BK222; have hfz43_0 := fz_ BK222 0; have hfz43_1 := fz_ BK222 1) | ((with_reducible refine gate_callee (f := 18) rfl ?_); refine goesL_ (some 26) rfl rfl Try.func18 (by kernel_rfl) rfl #[.agg #[.int .i64 t219, .int .i64 t220], .int .u64 a4] rfl (by (try simp only [List.map_toArray, List.map_cons, List.map_nil]); first | done | rfl) ?_; (with_reducible refine (lockgatelaw04_soft.calls t219 t220 a4 t224 _ A8.out).mono ?_); rintro e w44 ⟨rfl, hb⟩; refine ⟨_, rfl, ?_⟩; replace BK215 := bb_ hb BK215; replace BK216 := bb_ hb BK216; replace BK221 := bb_ hb BK221; replace BK222 := bb_ hb BK222; replace HB := bl_ hb; (try clear hb); (try clear hb2); (try clear hk); (try clear hi); have hcz45_0 := c0_ BK221; have hcz45_1 := c1_ BK221; have hfz45_0 := fz_ BK221 0; have hfz45_1 := fz_ BK221 1) | ((with_reducible refine gate_callee (f := 16) rfl ?_); refine goesL_ (some 29) rfl rfl Try.func16 (by kernel_rfl) rfl #[.agg #[.int .i64 t217, .int .i64 t218], .int .u64 t223] rfl (by (try simp only [List.map_toArray, List.map_cons, List.map_nil]); first | done | rfl) ?_; (with_reducible refine (span_SIn.calls t217 t218 t223 true _ A9.out).mono ?_); rintro e w46 ⟨rfl, hb⟩; refine ⟨_, rfl, ?_⟩; replace BK215 := bb_ hb BK215; replace BK216 := bb_ hb BK216; replace BK221 := bb_ hb BK221; replace BK222 := bb_ hb BK222; replace HB := bl_ hb; (try clear hb); (try clear hb2); (try clear hk); (try clear hi); have hcz47_0 := c0_ BK221; have hcz47_1 := c1_ BK221; have hfz47_0 := fz_ BK221 0; have hfz47_1 := fz_ BK221 1; have hcz48_0 := c0_ BK222; have hcz48_1 := c1_ BK222; have hfz48_0 := fz_ BK222 0; have hfz48_1 := fz_ BK222 1) | (go_at_call 19; (with_reducible refine (span_SAdd.calls t217 t218 t219 t220 t226 t227 _ A11.out).mono ?_); rintro e w49 ⟨rfl, hb⟩; replace BK215 := bb_ hb BK215; replace BK216 := bb_ hb BK216; replace BK221 := bb_ hb BK221; replace BK222 := bb_ hb BK222; replace HB := bl_ hb; (try clear hb); (try clear hb2); (try clear hk); (try clear hi)) | (go_at_call 16; (with_reducible refine (span_SIn.calls t226 t227 (IntKind.u64.wrap (t223 + t224)) true _ A12.out).mono ?_); rintro e w50 ⟨rfl, hb⟩; replace BK215 := bb_ hb BK215; replace BK216 := bb_ hb BK216; replace BK221 := bb_ hb BK221; replace BK222 := bb_ hb BK222; replace HB := bl_ hb; (try clear hb); (try clear hb2); (try clear hk); (try clear hi); have hcz51_0 := c0_ BK221; have hcz51_1 := c1_ BK221; have hfz51_0 := fz_ BK221 0; have hfz51_1 := fz_ BK221 1; have hcz52_0 := c0_ BK222; have hcz52_1 := c1_ BK222; have hfz52_0 := fz_ BK222 0; have hfz52_1 := fz_ BK222 1) | (go_at_call 20; (with_reducible refine (span_SSub.calls t217 t218 t219 t220 t229 t230 _ A14.out).mono ?_); rintro e w53 ⟨rfl, hb⟩; replace BK215 := bb_ hb BK215; replace BK216 := bb_ hb BK216; replace BK221 := bb_ hb BK221; replace BK222 := bb_ hb BK222; replace HB := bl_ hb; (try clear hb); (try clear hb2); (try clear hk); (try clear hi)) | (go_at_call 16; (with_reducible refine (span_SIn.calls t229 t230 (IntKind.u64.wrap (t223 - t224)) true _ A15.out).mono ?_); rintro e w54 ⟨rfl, hb⟩; replace BK215 := bb_ hb BK215; replace BK216 := bb_ hb BK216; replace BK221 := bb_ hb BK221; replace BK222 := bb_ hb BK222; replace HB := bl_ hb; (try clear hb); (try clear hb2); (try clear hk); (try clear hi); have hcz55_0 := c0_ BK221; have hcz55_1 := c1_ BK221; have hfz55_0 := fz_ BK221 0; have hfz55_1 := fz_ BK221 1) | (go_at_call 21; (with_reducible refine (span_SArsh.calls t217 t218 a2 t232 t233 _ A17.out).mono ?_); rintro e w56 ⟨rfl, hb⟩; replace BK215 := bb_ hb BK215; replace BK216 := bb_ hb BK216; replace BK221 := bb_ hb BK221; replace BK222 := bb_ hb BK222; replace HB := bl_ hb; (try clear hb); (try clear hb2); (try clear hk); (try clear hi)) | (go_at_call 16; (with_reducible refine (span_SIn.calls t232 t233 (IntKind.u64.wrap (ji20)) true _ A21.out).mono ?_); rintro e w57 ⟨rfl, hb⟩; replace BK215 := bb_ hb BK215; replace BK216 := bb_ hb BK216; replace BK221 := bb_ hb BK221; replace BK222 := bb_ hb BK222; replace HB := bl_ hb; (try clear hb); (try clear hb2); (try clear hk); (try clear hi); have hcz58_0 := c0_ BK221; have hcz58_1 := c1_ BK221; have hfz58_0 := fz_ BK221 0; have hfz58_1 := fz_ BK221 1) | (go_at_call 22; (with_reducible refine (span_ToU.calls t217 t218 t235 t236 _ A23.out).mono ?_); rintro e w59 ⟨rfl, hb⟩; replace BK215 := bb_ hb BK215; replace BK216 := bb_ hb BK216; replace BK221 := bb_ hb BK221; replace BK222 := bb_ hb BK222; replace HB := bl_ hb; (try clear hb); (try clear hb2); (try clear hk); (try clear hi)) | (go_at_call 15; (with_reducible refine (span_UIn.calls t235 t236 t223 true _ A24.out).mono ?_); rintro e w60 ⟨rfl, hb⟩; replace BK215 := bb_ hb BK215; replace BK216 := bb_ hb BK216; replace BK221 := bb_ hb BK221; replace BK222 := bb_ hb BK222; replace HB := bl_ hb; (try clear hb); (try clear hb2); (try clear hk); (try clear hi)) | (go_at_call 14; (with_reducible refine (lockgatelaw04_works.calls k  t238 _ A26.out).mono ?_); rintro e w61 ⟨rfl, hb⟩; replace BK215 := bb_ hb BK215; replace BK216 := bb_ hb BK216; replace BK221 := bb_ hb BK221; replace BK222 := bb_ hb BK222; replace HB := bl_ hb; (try clear hb); (try clear hb2); (try clear hk); (try clear hi)))
       go_ret
       exact ⟨by first | rfl | (simp [errW_none, errW_some] <;> rfl) | (simp only [← hji18, ← hji20]; first | rfl | (simp [errW_none, errW_some] <;> rfl)) | (simp [*, errW_none, errW_some] <;> rfl), bz_⟩
      ·replace c25 := Bool.eq_false_iff.mpr c25
       subst c25
       have H1 : (some false) = some r := by rw [if_neg (show ¬ (false = true) by decide)] at H; exact H
       clear H
       have H := H1
       clear H1
       exact absurd ((Option.some.inj H).trans HRT.out) (by decide)
     ·replace c22 := Bool.eq_false_iff.mpr c22
      subst c22
      have H1 : (some false) = some r := by rw [if_neg (show ¬ (false = true) by decide)] at H; exact H
      clear H
      have H := H1
      clear H1
      exact absurd ((Option.some.inj H).trans HRT.out) (by decide)
    ·rw [if_neg c19] at H
     exact absurd H (by simp)
   ·replace c16 := Bool.eq_false_iff.mpr c16
    subst c16
    have H1 : (some false) = some r := by rw [if_neg (show ¬ (false = true) by decide)] at H; exact H
    clear H
    have H := H1
    clear H1
    exact absurd ((Option.some.inj H).trans HRT.out) (by decide)
  ·replace c13 := Bool.eq_false_iff.mpr c13
   subst c13
   have H1 : (some false) = some r := by rw [if_neg (show ¬ (false = true) by decide)] at H; exact H
   clear H
   have H := H1
   clear H1
   exact absurd ((Option.some.inj H).trans HRT.out) (by decide)
 ·replace c10 := Bool.eq_false_iff.mpr c10
  subst c10
  have H1 : (some false) = some r := by rw [if_neg (show ¬ (false = true) by decide)] at H; exact H
  clear H
  have H := H1
  clear H1
  exact absurd ((Option.some.inj H).trans HRT.out) (by decide)

end Go.Proofs.Ytnephcecobocdaa.PA
