/- InsnChecks, of the given program: for every input the law answers true, and its arguments read as before. -/
import Derived.Test.YticijjonimiooaaRows
import Derived.Test.YticijjonimiooaaPA29
import Derived.Test.YticijjonimiooaaLInsnChecks
import Derived.Test.YticijjonimiooaaFlat
import Derived.WalkKit
import Derived.ProofKit
import Derived.OpenShut
import Derived.ChangeOld
import Derived.Below
import Derived.SizedLaws
namespace Go.Proofs.Yticijjonimiooaa.rowInsnChecks
open Go.ChangeShapes Go.WideShapes Go.ChangeAt Go.RowKit Go.Proofs.Yticijjonimiooaa.Flat
set_option linter.unusedVariables false
theorem own : ownKnob Try.prog.godebug = none := by kernel_rfl
theorem laidOut : laidOutB Try.prog = true := by kernel_rfl
theorem flat40 : flatK Try.prog 12 40 = some [.int .i64, .int .i64, .int .i64, .int .i64, .int .i64] := by kernel_rfl
set_option maxRecDepth 100000 in
theorem lifted (os : Os) (started : os.Started) (H : Type) (enc : TypeId × Value → H) :
    ReturnsInHanded {} Try.checked os 9 .any (Rows.insnChecksSpec.pre6 enc Try.prog Try.f9 Rows.insnChecksRow.domain false) (Rows.insnChecksSpec.post enc Try.prog Try.f9 false true false false) := by
  refine returnsInHanded_of_change_sized (C := Try.checked) own started (by kernel_rfl) Try.func9
    (ChangeSpec.witness6 (enc := enc) (C := Try.checked) false ⟨#[], #[.agg #[.int .i64 0, .int .i64 0, .int .i64 0, .int .i64 0, .int .i64 0]], []⟩ 8 (by kernel_rfl) (by kernel_rfl) (by kernel_rfl) (by kernel_rfl)) ?_
  intro W base args ds gs before hval0 hW hcnd hsz0 _
  have hval : ∀ (j : Nat) t v, Try.f9.params[j]? = some t → args[j]? = some v → Value.okWide Try.prog W .any base t v := hval0
  have hW' := hW
  obtain ⟨p, q, hA0, hV, rfl, hfz, hnd⟩ := hW
  have hA : DataW.TrodAll enc Try.prog W 0 (fun _ => true) true Try.f9.params.toList args.toList ds p := hA0
  rw [Try.params9] at hA hval
  obtain ⟨v0, vs0, d0, ds0, p0, q0, hargs, rfl, rfl, h0, r0⟩ := trodAll_cons hA
  obtain ⟨rfl, rfl, rfl⟩ := trodAll_nil r0
  obtain rfl : args = #[v0] := by cases args; simp_all
  obtain ⟨rfl, rfl⟩ := trodVars_none hV
  have k0 := h0
  have lt0 : ∀ x ∈ p0, x.block < W.heap.size := by obtain ⟨m, hm⟩ := k0; exact DataW.trod_lt m _ _ _ hm
  obtain ⟨cs0, e0, g0⟩ := open_flat flat40 Try.underlying40 (hval 0 40 v0 rfl rfl) h0
  obtain ⟨a0_0, cs0, rfl, w0_0, g0⟩ := ok_int g0
  obtain ⟨a0_1, cs0, rfl, w0_1, g0⟩ := ok_int g0
  obtain ⟨a0_2, cs0, rfl, w0_2, g0⟩ := ok_int g0
  obtain ⟨a0_3, cs0, rfl, w0_3, g0⟩ := ok_int g0
  obtain ⟨a0_4, cs0, rfl, w0_4, g0⟩ := ok_int g0
  obtain rfl := ok_nil g0
  have e0 : v0 = .agg #[.int .i64 a0_0, .int .i64 a0_1, .int .i64 a0_2, .int .i64 a0_3, .int .i64 a0_4] := e0
  subst e0
  clear g0
  clear hA0 hval0 hsz0
  obtain ⟨k, hk⟩ := LInsnChecks.pure a0_0 a0_1 a0_2 a0_3 a0_4 w0_0 w0_1 w0_2 w0_3 w0_4
  refine (PA.lockgatelaw02_InsnChecks.calls k a0_0 a0_1 a0_2 a0_3 a0_4 true W (.mk rfl) hk).mono fun e W' ⟨he, bel0⟩ => ?_
  have bel : Below W.heap.size W W' := bel0
  subst he
  exact ⟨_, rfl, _, _, _, [], _, [], hW', trodAll_mk1 (shut_bool Try.underlying4 _), (trodAll_cons_mk (Below.trod laidOut (by kernel_rfl) (of_decide_eq_true (by kernel_rfl)) k0 bel lt0) trodAll_mk0), rfl, bel.frame _, fun h => by cases h⟩
theorem over : Rows.insnChecksRow.holds Try.pinned (OpenSpec.ofChange Rows.insnChecksSpec) :=
  OpenClaim.holds_of_wide 9 Try.f9 rfl rfl rfl rfl rfl rfl rfl ⟨rfl, rfl, rfl, rfl, rfl⟩ rfl rfl rfl rfl rfl (by kernel_rfl) Try.func9 (by kernel_rfl)
    (of_decide_eq_true (by kernel_rfl)) (by unfold Func.isWrapper; first | (rw [if_pos (by decide +kernel)]; kernel_rfl) | (rw [if_neg (by decide +kernel)]; exact ⟨rfl, rfl⟩))
    (fun os started H enc _ => lifted os started H enc)
theorem proved : Rows.InsnChecksSaid := over
#print axioms proved
end Go.Proofs.Yticijjonimiooaa.rowInsnChecks
namespace Go.Proofs.Yticijjonimiooaa
/-- The row, under a short name, for the claim. -/
theorem insnChecks_holds : Rows.InsnChecksSaid := rowInsnChecks.proved
end Go.Proofs.Yticijjonimiooaa
