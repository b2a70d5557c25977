/- KindsHolds, of the given program: for every input the law answers true, and its arguments read as before. -/
import Derived.Test.YtaplgollkkpnaaaRows
import Derived.Test.YtaplgollkkpnaaaLKindsHolds
import Derived.Test.YtaplgollkkpnaaaFlat
import Derived.WalkKit
import Derived.ProofKit
import Derived.OpenShut
import Derived.ChangeOld
import Derived.Below
import Derived.SizedLaws
namespace Go.Proofs.Ytaplgollkkpnaaa.rowKindsHolds
open Go.ChangeShapes Go.WideShapes Go.ChangeAt Go.RowKit Go.Proofs.Ytaplgollkkpnaaa.Flat
set_option linter.unusedVariables false
theorem own : ownKnob Try.prog.godebug = none := by kernel_rfl
theorem laidOut : laidOutB Try.prog = true := by kernel_rfl
theorem flat32 : flatK Try.prog 12 32 = some [.int .i64, .int .u64, .int .u64, .int .u64, .int .u64, .int .i64, .int .i64, .int .i64, .int .i64, .int .i64, .int .i64] := by kernel_rfl
theorem flat44 : flatK Try.prog 12 44 = some [.int .i64, .int .u64, .int .i64] := by kernel_rfl
set_option maxRecDepth 100000 in
theorem lifted (os : Os) (started : os.Started) (H : Type) (enc : TypeId × Value → H) :
    ReturnsInHanded {} Try.checked os 4 .any (Rows.kindsHoldsSpec.pre6 enc Try.prog Try.f4 Rows.kindsHoldsRow.domain false) (Rows.kindsHoldsSpec.post enc Try.prog Try.f4 false true false false) := by
  refine returnsInHanded_of_change_sized (C := Try.checked) own started (by kernel_rfl) Try.func4
    (ChangeSpec.witness6 (enc := enc) (C := Try.checked) false ⟨#[], #[.agg #[.int .i64 0, .int .u64 0, .int .u64 0, .int .u64 0, .int .u64 0, .int .i64 0, .int .i64 0, .int .i64 0, .int .i64 0, .int .i64 0, .int .i64 0], .agg #[.int .i64 0, .int .u64 0, .int .i64 0], .int .i64 0, .int .u64 0, .int .i64 0], []⟩ 8 (by kernel_rfl) (by kernel_rfl) (by kernel_rfl) (by kernel_rfl)) ?_
  intro W base args ds gs before hval0 hW hcnd hsz0 _
  have hval : ∀ (j : Nat) t v, Try.f4.params[j]? = some t → args[j]? = some v → Value.okWide Try.prog W .any base t v := hval0
  have hW' := hW
  obtain ⟨p, q, hA0, hV, rfl, hfz, hnd⟩ := hW
  have hA : DataW.TrodAll enc Try.prog W 0 (fun _ => true) true Try.f4.params.toList args.toList ds p := hA0
  rw [Try.params4] at hA hval
  obtain ⟨v0, vs0, d0, ds0, p0, q0, hargs, rfl, rfl, h0, r0⟩ := trodAll_cons hA
  obtain ⟨v1, vs1, d1, ds1, p1, q1, rfl, rfl, rfl, h1, r1⟩ := trodAll_cons r0
  obtain ⟨v2, vs2, d2, ds2, p2, q2, rfl, rfl, rfl, h2, r2⟩ := trodAll_cons r1
  obtain ⟨v3, vs3, d3, ds3, p3, q3, rfl, rfl, rfl, h3, r3⟩ := trodAll_cons r2
  obtain ⟨v4, vs4, d4, ds4, p4, q4, rfl, rfl, rfl, h4, r4⟩ := trodAll_cons r3
  obtain ⟨rfl, rfl, rfl⟩ := trodAll_nil r4
  obtain rfl : args = #[v0, v1, v2, v3, v4] := by cases args; simp_all
  obtain ⟨rfl, rfl⟩ := trodVars_none hV
  have k0 := h0
  have lt0 : ∀ x ∈ p0, x.block < W.heap.size := by obtain ⟨m, hm⟩ := k0; exact DataW.trod_lt m _ _ _ hm
  obtain ⟨cs0, e0, g0⟩ := open_flat flat32 Try.underlying32 (hval 0 32 v0 rfl rfl) h0
  obtain ⟨a0_0, cs0, rfl, w0_0, g0⟩ := ok_int g0
  obtain ⟨a0_1, cs0, rfl, w0_1, g0⟩ := ok_int g0
  obtain ⟨a0_2, cs0, rfl, w0_2, g0⟩ := ok_int g0
  obtain ⟨a0_3, cs0, rfl, w0_3, g0⟩ := ok_int g0
  obtain ⟨a0_4, cs0, rfl, w0_4, g0⟩ := ok_int g0
  obtain ⟨a0_5, cs0, rfl, w0_5, g0⟩ := ok_int g0
  obtain ⟨a0_6, cs0, rfl, w0_6, g0⟩ := ok_int g0
  obtain ⟨a0_7, cs0, rfl, w0_7, g0⟩ := ok_int g0
  obtain ⟨a0_8, cs0, rfl, w0_8, g0⟩ := ok_int g0
  obtain ⟨a0_9, cs0, rfl, w0_9, g0⟩ := ok_int g0
  obtain ⟨a0_10, cs0, rfl, w0_10, g0⟩ := ok_int g0
  obtain rfl := ok_nil g0
  have e0 : v0 = .agg #[.int .i64 a0_0, .int .u64 a0_1, .int .u64 a0_2, .int .u64 a0_3, .int .u64 a0_4, .int .i64 a0_5, .int .i64 a0_6, .int .i64 a0_7, .int .i64 a0_8, .int .i64 a0_9, .int .i64 a0_10] := e0
  subst e0
  clear g0
  have k1 := h1
  have lt1 : ∀ x ∈ p1, x.block < W.heap.size := by obtain ⟨m, hm⟩ := k1; exact DataW.trod_lt m _ _ _ hm
  obtain ⟨cs1, e1, g1⟩ := open_flat flat44 Try.underlying44 (hval 1 44 v1 rfl rfl) h1
  obtain ⟨a1_0, cs1, rfl, w1_0, g1⟩ := ok_int g1
  obtain ⟨a1_1, cs1, rfl, w1_1, g1⟩ := ok_int g1
  obtain ⟨a1_2, cs1, rfl, w1_2, g1⟩ := ok_int g1
  obtain rfl := ok_nil g1
  have e1 : v1 = .agg #[.int .i64 a1_0, .int .u64 a1_1, .int .i64 a1_2] := e1
  subst e1
  clear g1
  obtain ⟨a2, rfl, rfl, rfl, w2⟩ := open_int Try.underlying3 (hval 2 3 v2 rfl rfl) h2
  obtain ⟨a3, rfl, rfl, rfl, w3⟩ := open_int Try.underlying22 (hval 3 22 v3 rfl rfl) h3
  obtain ⟨a4, rfl, rfl, rfl, w4⟩ := open_int Try.underlying3 (hval 4 3 v4 rfl rfl) h4
  clear hA0 hval0 hsz0
  refine (LKindsHolds.calls a0_0 a0_1 a0_2 a0_3 a0_4 a0_5 a0_6 a0_7 a0_8 a0_9 a0_10 a1_0 a1_1 a1_2 a2 a3 a4 w0_0 w0_1 w0_2 w0_3 w0_4 w0_5 w0_6 w0_7 w0_8 w0_9 w0_10 w1_0 w1_1 w1_2 w2 w3 w4 W).mono fun e W' ⟨he, bel0⟩ => ?_
  have bel : Below W.heap.size W W' := bel0
  subst he
  exact ⟨_, rfl, _, _, _, [], _, [], hW', trodAll_mk1 (shut_bool Try.underlying4 _), (trodAll_cons_mk (Below.trod laidOut (by kernel_rfl) (of_decide_eq_true (by kernel_rfl)) k0 bel lt0) (trodAll_cons_mk (Below.trod laidOut (by kernel_rfl) (of_decide_eq_true (by kernel_rfl)) k1 bel lt1) (trodAll_cons_mk (shut_int Try.underlying3 w2) (trodAll_cons_mk (shut_int Try.underlying22 w3) (trodAll_cons_mk (shut_int Try.underlying3 w4) trodAll_mk0))))), rfl, bel.frame _, fun h => by cases h⟩
theorem over : Rows.kindsHoldsRow.holds Try.pinned (OpenSpec.ofChange Rows.kindsHoldsSpec) :=
  OpenClaim.holds_of_wide 4 Try.f4 rfl rfl rfl rfl rfl rfl rfl ⟨rfl, rfl, rfl, rfl, rfl⟩ rfl rfl rfl rfl rfl (by kernel_rfl) Try.func4 (by kernel_rfl)
    (of_decide_eq_true (by kernel_rfl)) (by unfold Func.isWrapper; first | (rw [if_pos (by decide +kernel)]; kernel_rfl) | (rw [if_neg (by decide +kernel)]; exact ⟨rfl, rfl⟩))
    (fun os started H enc _ => lifted os started H enc)
theorem proved : Rows.KindsHoldsSaid := over
#print axioms proved
end Go.Proofs.Ytaplgollkkpnaaa.rowKindsHolds
namespace Go.Proofs.Ytaplgollkkpnaaa
/-- The row, under a short name, for the claim. -/
theorem kindsHolds_holds : Rows.KindsHoldsSaid := rowKindsHolds.proved
end Go.Proofs.Ytaplgollkkpnaaa
