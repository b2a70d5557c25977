/- SpanBits, of the given program: for every input the law answers true, and its arguments read as before. -/
import Derived.Test.YtnephcecobocdaaRows
import Derived.Test.YtnephcecobocdaaPA29
import Derived.Test.YtnephcecobocdaaLSpanBits
import Derived.Test.YtnephcecobocdaaFlat
import Derived.WalkKit
import Derived.ProofKit
import Derived.OpenShut
import Derived.ChangeOld
import Derived.Below
import Derived.SizedLaws
namespace Go.Proofs.Ytnephcecobocdaa.rowSpanBits
open Go.ChangeShapes Go.WideShapes Go.ChangeAt Go.RowKit Go.Proofs.Ytnephcecobocdaa.Flat
set_option linter.unusedVariables false
theorem own : ownKnob Try.prog.godebug = none := by kernel_rfl
theorem laidOut : laidOutB Try.prog = true := by kernel_rfl
theorem flat24 : flatK Try.prog 12 24 = some [.int .u64, .int .u64] := by kernel_rfl
set_option maxRecDepth 100000 in
theorem lifted (os : Os) (started : os.Started) (H : Type) (enc : TypeId × Value → H) :
    ReturnsInHanded {} Try.checked os 3 .any (Rows.spanBitsSpec.pre6 enc Try.prog Try.f3 Rows.spanBitsRow.domain false) (Rows.spanBitsSpec.post enc Try.prog Try.f3 false true false false) := by
  refine returnsInHanded_of_change_sized (C := Try.checked) own started (by kernel_rfl) Try.func3
    (ChangeSpec.witness6 (enc := enc) (C := Try.checked) false ⟨#[], #[.agg #[.int .u64 0, .int .u64 0]], []⟩ 8 (by kernel_rfl) (by kernel_rfl) (by kernel_rfl) (by kernel_rfl)) ?_
  intro W base args ds gs before hval0 hW hcnd hsz0 _
  have hval : ∀ (j : Nat) t v, Try.f3.params[j]? = some t → args[j]? = some v → Value.okWide Try.prog W .any base t v := hval0
  have hW' := hW
  obtain ⟨p, q, hA0, hV, rfl, hfz, hnd⟩ := hW
  have hA : DataW.TrodAll enc Try.prog W 0 (fun _ => true) true Try.f3.params.toList args.toList ds p := hA0
  rw [Try.params3] at hA hval
  obtain ⟨v0, vs0, d0, ds0, p0, q0, hargs, rfl, rfl, h0, r0⟩ := trodAll_cons hA
  obtain ⟨rfl, rfl, rfl⟩ := trodAll_nil r0
  obtain rfl : args = #[v0] := by cases args; simp_all
  obtain ⟨rfl, rfl⟩ := trodVars_none hV
  have k0 := h0
  have lt0 : ∀ x ∈ p0, x.block < W.heap.size := by obtain ⟨m, hm⟩ := k0; exact DataW.trod_lt m _ _ _ hm
  obtain ⟨cs0, e0, g0⟩ := open_flat flat24 Try.underlying24 (hval 0 24 v0 rfl rfl) h0
  obtain ⟨a0_0, cs0, rfl, w0_0, g0⟩ := ok_int g0
  obtain ⟨a0_1, cs0, rfl, w0_1, g0⟩ := ok_int g0
  obtain rfl := ok_nil g0
  have e0 : v0 = .agg #[.int .u64 a0_0, .int .u64 a0_1] := e0
  subst e0
  clear g0
  clear hA0 hval0 hsz0
  obtain ⟨k, hk⟩ := LSpanBits.pure a0_0 a0_1 w0_0 w0_1
  refine (PA.lockgatelaw04_SpanBits.calls k a0_0 a0_1 true W (.mk rfl) hk).mono fun e W' ⟨he, bel0⟩ => ?_
  have bel : Below W.heap.size W W' := bel0
  subst he
  exact ⟨_, rfl, _, _, _, [], _, [], hW', trodAll_mk1 (shut_bool Try.underlying4 _), (trodAll_cons_mk (Below.trod laidOut (by kernel_rfl) (of_decide_eq_true (by kernel_rfl)) k0 bel lt0) trodAll_mk0), rfl, bel.frame _, fun h => by cases h⟩
theorem over : Rows.spanBitsRow.holds Try.pinned (OpenSpec.ofChange Rows.spanBitsSpec) :=
  OpenClaim.holds_of_wide 3 Try.f3 rfl rfl rfl rfl rfl rfl rfl ⟨rfl, rfl, rfl, rfl, rfl⟩ rfl rfl rfl rfl rfl (by kernel_rfl) Try.func3 (by kernel_rfl)
    (of_decide_eq_true (by kernel_rfl)) (by unfold Func.isWrapper; first | (rw [if_pos (by decide +kernel)]; kernel_rfl) | (rw [if_neg (by decide +kernel)]; exact ⟨rfl, rfl⟩))
    (fun os started H enc _ => lifted os started H enc)
theorem proved : Rows.SpanBitsSaid := over
#print axioms proved
end Go.Proofs.Ytnephcecobocdaa.rowSpanBits
namespace Go.Proofs.Ytnephcecobocdaa
/-- The row, under a short name, for the claim. -/
theorem spanBits_holds : Rows.SpanBitsSaid := rowSpanBits.proved
end Go.Proofs.Ytnephcecobocdaa
