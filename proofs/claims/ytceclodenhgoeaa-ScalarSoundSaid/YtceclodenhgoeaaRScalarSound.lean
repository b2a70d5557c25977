/- ScalarSound, of the given program: for every input the law answers true, and its arguments read as before. -/
import Derived.Test.YtceclodenhgoeaaRows
import Derived.Test.YtceclodenhgoeaaLScalarSound
import Derived.Test.YtceclodenhgoeaaFlat
import Derived.WalkKit
import Derived.ProofKit
import Derived.OpenShut
import Derived.ChangeOld
import Derived.Below
import Derived.SizedLaws
namespace Go.Proofs.Ytceclodenhgoeaa.rowScalarSound
open Go.ChangeShapes Go.WideShapes Go.ChangeAt Go.RowKit Go.Proofs.Ytceclodenhgoeaa.Flat
set_option linter.unusedVariables false
theorem own : ownKnob Try.prog.godebug = none := by kernel_rfl
theorem laidOut : laidOutB Try.prog = true := by kernel_rfl
theorem flat30 : flatK Try.prog 12 30 = some [.int .u64, .int .u64, .int .u64, .int .u64, .int .i64, .int .i64] := by kernel_rfl
set_option maxRecDepth 100000 in
theorem lifted (os : Os) (started : os.Started) (H : Type) (enc : TypeId × Value → H) :
    ReturnsInHanded {} Try.checked os 5 .any (Rows.scalarSoundSpec.pre6 enc Try.prog Try.f5 Rows.scalarSoundRow.domain false) (Rows.scalarSoundSpec.post enc Try.prog Try.f5 false true false false) := by
  refine returnsInHanded_of_change_sized (C := Try.checked) own started (by kernel_rfl) Try.func5
    (ChangeSpec.witness6 (enc := enc) (C := Try.checked) false ⟨#[], #[.int .i64 0, .bool false, .agg #[.int .u64 0, .int .u64 0, .int .u64 0, .int .u64 0, .int .i64 0, .int .i64 0], .agg #[.int .u64 0, .int .u64 0, .int .u64 0, .int .u64 0, .int .i64 0, .int .i64 0], .int .u64 0, .int .u64 0], []⟩ 8 (by kernel_rfl) (by kernel_rfl) (by kernel_rfl) (by kernel_rfl)) ?_
  intro W base args ds gs before hval0 hW hcnd hsz0 _
  have hval : ∀ (j : Nat) t v, Try.f5.params[j]? = some t → args[j]? = some v → Value.okWide Try.prog W .any base t v := hval0
  have hW' := hW
  obtain ⟨p, q, hA0, hV, rfl, hfz, hnd⟩ := hW
  have hA : DataW.TrodAll enc Try.prog W 0 (fun _ => true) true Try.f5.params.toList args.toList ds p := hA0
  rw [Try.params5] at hA hval
  obtain ⟨v0, vs0, d0, ds0, p0, q0, hargs, rfl, rfl, h0, r0⟩ := trodAll_cons hA
  obtain ⟨v1, vs1, d1, ds1, p1, q1, rfl, rfl, rfl, h1, r1⟩ := trodAll_cons r0
  obtain ⟨v2, vs2, d2, ds2, p2, q2, rfl, rfl, rfl, h2, r2⟩ := trodAll_cons r1
  obtain ⟨v3, vs3, d3, ds3, p3, q3, rfl, rfl, rfl, h3, r3⟩ := trodAll_cons r2
  obtain ⟨v4, vs4, d4, ds4, p4, q4, rfl, rfl, rfl, h4, r4⟩ := trodAll_cons r3
  obtain ⟨v5, vs5, d5, ds5, p5, q5, rfl, rfl, rfl, h5, r5⟩ := trodAll_cons r4
  obtain ⟨rfl, rfl, rfl⟩ := trodAll_nil r5
  obtain rfl : args = #[v0, v1, v2, v3, v4, v5] := by cases args; simp_all
  obtain ⟨rfl, rfl⟩ := trodVars_none hV
  obtain ⟨a0, rfl, rfl, rfl, w0⟩ := open_int Try.underlying3 (hval 0 3 v0 rfl rfl) h0
  obtain ⟨a1, rfl, rfl, rfl⟩ := open_bool Try.underlying4 (hval 1 4 v1 rfl rfl) h1
  have k2 := h2
  have lt2 : ∀ x ∈ p2, x.block < W.heap.size := by obtain ⟨m, hm⟩ := k2; exact DataW.trod_lt m _ _ _ hm
  obtain ⟨cs2, e2, g2⟩ := open_flat flat30 Try.underlying30 (hval 2 30 v2 rfl rfl) h2
  obtain ⟨a2_0, cs2, rfl, w2_0, g2⟩ := ok_int g2
  obtain ⟨a2_1, cs2, rfl, w2_1, g2⟩ := ok_int g2
  obtain ⟨a2_2, cs2, rfl, w2_2, g2⟩ := ok_int g2
  obtain ⟨a2_3, cs2, rfl, w2_3, g2⟩ := ok_int g2
  obtain ⟨a2_4, cs2, rfl, w2_4, g2⟩ := ok_int g2
  obtain ⟨a2_5, cs2, rfl, w2_5, g2⟩ := ok_int g2
  obtain rfl := ok_nil g2
  have e2 : v2 = .agg #[.int .u64 a2_0, .int .u64 a2_1, .int .u64 a2_2, .int .u64 a2_3, .int .i64 a2_4, .int .i64 a2_5] := e2
  subst e2
  clear g2
  have k3 := h3
  have lt3 : ∀ x ∈ p3, x.block < W.heap.size := by obtain ⟨m, hm⟩ := k3; exact DataW.trod_lt m _ _ _ hm
  obtain ⟨cs3, e3, g3⟩ := open_flat flat30 Try.underlying30 (hval 3 30 v3 rfl rfl) h3
  obtain ⟨a3_0, cs3, rfl, w3_0, g3⟩ := ok_int g3
  obtain ⟨a3_1, cs3, rfl, w3_1, g3⟩ := ok_int g3
  obtain ⟨a3_2, cs3, rfl, w3_2, g3⟩ := ok_int g3
  obtain ⟨a3_3, cs3, rfl, w3_3, g3⟩ := ok_int g3
  obtain ⟨a3_4, cs3, rfl, w3_4, g3⟩ := ok_int g3
  obtain ⟨a3_5, cs3, rfl, w3_5, g3⟩ := ok_int g3
  obtain rfl := ok_nil g3
  have e3 : v3 = .agg #[.int .u64 a3_0, .int .u64 a3_1, .int .u64 a3_2, .int .u64 a3_3, .int .i64 a3_4, .int .i64 a3_5] := e3
  subst e3
  clear g3
  obtain ⟨a4, rfl, rfl, rfl, w4⟩ := open_int Try.underlying22 (hval 4 22 v4 rfl rfl) h4
  obtain ⟨a5, rfl, rfl, rfl, w5⟩ := open_int Try.underlying22 (hval 5 22 v5 rfl rfl) h5
  clear hA0 hval0 hsz0
  refine (LScalarSound.calls a0 a1 a2_0 a2_1 a2_2 a2_3 a2_4 a2_5 a3_0 a3_1 a3_2 a3_3 a3_4 a3_5 a4 a5 w0 w2_0 w2_1 w2_2 w2_3 w2_4 w2_5 w3_0 w3_1 w3_2 w3_3 w3_4 w3_5 w4 w5 W).mono fun e W' ⟨he, bel0⟩ => ?_
  have bel : Below W.heap.size W W' := bel0
  subst he
  exact ⟨_, rfl, _, _, _, [], _, [], hW', trodAll_mk1 (shut_bool Try.underlying4 _), (trodAll_cons_mk (shut_int Try.underlying3 w0) (trodAll_cons_mk (shut_bool Try.underlying4 _) (trodAll_cons_mk (Below.trod laidOut (by kernel_rfl) (of_decide_eq_true (by kernel_rfl)) k2 bel lt2) (trodAll_cons_mk (Below.trod laidOut (by kernel_rfl) (of_decide_eq_true (by kernel_rfl)) k3 bel lt3) (trodAll_cons_mk (shut_int Try.underlying22 w4) (trodAll_cons_mk (shut_int Try.underlying22 w5) trodAll_mk0)))))), rfl, bel.frame _, fun h => by cases h⟩
theorem over : Rows.scalarSoundRow.holds Try.pinned (OpenSpec.ofChange Rows.scalarSoundSpec) :=
  OpenClaim.holds_of_wide 5 Try.f5 rfl rfl rfl rfl rfl rfl rfl ⟨rfl, rfl, rfl, rfl, rfl⟩ rfl rfl rfl rfl rfl (by kernel_rfl) Try.func5 (by kernel_rfl)
    (of_decide_eq_true (by kernel_rfl)) (by unfold Func.isWrapper; first | (rw [if_pos (by decide +kernel)]; kernel_rfl) | (rw [if_neg (by decide +kernel)]; exact ⟨rfl, rfl⟩))
    (fun os started H enc _ => lifted os started H enc)
theorem proved : Rows.ScalarSoundSaid := over
#print axioms proved
end Go.Proofs.Ytceclodenhgoeaa.rowScalarSound
namespace Go.Proofs.Ytceclodenhgoeaa
/-- The row, under a short name, for the claim. -/
theorem scalarSound_holds : Rows.ScalarSoundSaid := rowScalarSound.proved
end Go.Proofs.Ytceclodenhgoeaa
