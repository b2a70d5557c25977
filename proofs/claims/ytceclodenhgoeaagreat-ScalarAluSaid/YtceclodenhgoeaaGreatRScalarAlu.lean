/- ScalarAlu, of the given program: for every input the law answers true, and its arguments read as before. -/
import Derived.Test.YtceclodenhgoeaaGreatRows
import Derived.Test.YtceclodenhgoeaaGreatLScalarAlu
import Derived.Test.YtceclodenhgoeaaGreatFlat
import Derived.WalkKit
import Derived.ProofKit
import Derived.OpenShut
import Derived.ChangeOld
import Derived.Below
import Derived.SizedLaws
namespace Go.Proofs.YtceclodenhgoeaaGreat.rowScalarAlu
open Go.ChangeShapes Go.WideShapes Go.ChangeAt Go.RowKit Go.Proofs.YtceclodenhgoeaaGreat.Flat
set_option linter.unusedVariables false
theorem own : ownKnob Tryz.prog.godebug = none := by kernel_rfl
theorem laidOut : laidOutB Tryz.prog = true := by kernel_rfl
theorem flat30 : flatK Tryz.prog 12 30 = some [.int .u64, .int .u64, .int .u64, .int .u64, .int .i64, .int .i64] := by kernel_rfl
set_option maxRecDepth 100000 in
theorem lifted (os : Os) (started : os.Started) (H : Type) (enc : TypeId × Value → H) :
    ReturnsInHanded {} Tryz.checked os 3 .any (Rows.scalarAluSpec.pre6 enc Tryz.prog Tryz.f3 Rows.scalarAluRow.domain false) (Rows.scalarAluSpec.post enc Tryz.prog Tryz.f3 false true false false) := by
  refine returnsInHanded_of_change_sized (C := Tryz.checked) own started (by kernel_rfl) Tryz.func3
    (ChangeSpec.witness6 (enc := enc) (C := Tryz.checked) false ⟨#[], #[.int .i64 0, .bool false, .agg #[.int .u64 0, .int .u64 0, .int .u64 0, .int .u64 0, .int .i64 0, .int .i64 0], .agg #[.int .u64 0, .int .u64 0, .int .u64 0, .int .u64 0, .int .i64 0, .int .i64 0]], []⟩ 8 (by kernel_rfl) (by kernel_rfl) (by kernel_rfl) (by kernel_rfl)) ?_
  intro W base args ds gs before hval0 hW hcnd hsz0 _
  have hval : ∀ (j : Nat) t v, Tryz.f3.params[j]? = some t → args[j]? = some v → Value.okWide Tryz.prog W .any base t v := hval0
  have hW' := hW
  obtain ⟨p, q, hA0, hV, rfl, hfz, hnd⟩ := hW
  have hA : DataW.TrodAll enc Tryz.prog W 0 (fun _ => true) true Tryz.f3.params.toList args.toList ds p := hA0
  rw [Tryz.params3] at hA hval
  obtain ⟨v0, vs0, d0, ds0, p0, q0, hargs, rfl, rfl, h0, r0⟩ := trodAll_cons hA
  obtain ⟨v1, vs1, d1, ds1, p1, q1, rfl, rfl, rfl, h1, r1⟩ := trodAll_cons r0
  obtain ⟨v2, vs2, d2, ds2, p2, q2, rfl, rfl, rfl, h2, r2⟩ := trodAll_cons r1
  obtain ⟨v3, vs3, d3, ds3, p3, q3, rfl, rfl, rfl, h3, r3⟩ := trodAll_cons r2
  obtain ⟨rfl, rfl, rfl⟩ := trodAll_nil r3
  obtain rfl : args = #[v0, v1, v2, v3] := by cases args; simp_all
  obtain ⟨rfl, rfl⟩ := trodVars_none hV
  obtain ⟨a0, rfl, rfl, rfl, w0⟩ := open_int Tryz.underlying3 (hval 0 3 v0 rfl rfl) h0
  obtain ⟨a1, rfl, rfl, rfl⟩ := open_bool Tryz.underlying4 (hval 1 4 v1 rfl rfl) h1
  have k2 := h2
  have lt2 : ∀ x ∈ p2, x.block < W.heap.size := by obtain ⟨m, hm⟩ := k2; exact DataW.trod_lt m _ _ _ hm
  obtain ⟨cs2, e2, g2⟩ := open_flat flat30 Tryz.underlying30 (hval 2 30 v2 rfl rfl) h2
  obtain ⟨a2_0, cs2, rfl, w2_0, g2⟩ := ok_int g2
  obtain ⟨a2_1, cs2, rfl, w2_1, g2⟩ := ok_int g2
  obtain ⟨a2_2, cs2, rfl, w2_2, g2⟩ := ok_int g2
  obtain ⟨a2_3, cs2, rfl, w2_3, g2⟩ := ok_int g2
  obtain ⟨a2_4, cs2, rfl, w2_4, g2⟩ := ok_int g2
  obtain ⟨a2_5, cs2, rfl, w2_5, g2⟩ := ok_int g2
  obtain rfl := ok_nil g2
  have e2 : v2 = .agg #[.int .u64 a2_0, .int .u64 a2_1, .int .u64 a2_2, .int .u64 a2_3, .int .i64 a2_4, .int .i64 a2_5] := e2
  subst e2
  clear g2
  have k3 := h3
  have lt3 : ∀ x ∈ p3, x.block < W.heap.size := by obtain ⟨m, hm⟩ := k3; exact DataW.trod_lt m _ _ _ hm
  obtain ⟨cs3, e3, g3⟩ := open_flat flat30 Tryz.underlying30 (hval 3 30 v3 rfl rfl) h3
  obtain ⟨a3_0, cs3, rfl, w3_0, g3⟩ := ok_int g3
  obtain ⟨a3_1, cs3, rfl, w3_1, g3⟩ := ok_int g3
  obtain ⟨a3_2, cs3, rfl, w3_2, g3⟩ := ok_int g3
  obtain ⟨a3_3, cs3, rfl, w3_3, g3⟩ := ok_int g3
  obtain ⟨a3_4, cs3, rfl, w3_4, g3⟩ := ok_int g3
  obtain ⟨a3_5, cs3, rfl, w3_5, g3⟩ := ok_int g3
  obtain rfl := ok_nil g3
  have e3 : v3 = .agg #[.int .u64 a3_0, .int .u64 a3_1, .int .u64 a3_2, .int .u64 a3_3, .int .i64 a3_4, .int .i64 a3_5] := e3
  subst e3
  clear g3
  clear hA0 hval0 hsz0
  refine (LScalarAlu.calls a0 a1 a2_0 a2_1 a2_2 a2_3 a2_4 a2_5 a3_0 a3_1 a3_2 a3_3 a3_4 a3_5 w0 w2_0 w2_1 w2_2 w2_3 w2_4 w2_5 w3_0 w3_1 w3_2 w3_3 w3_4 w3_5 W).mono fun e W' ⟨he, bel0⟩ => ?_
  have bel : Below W.heap.size W W' := bel0
  subst he
  exact ⟨_, rfl, _, _, _, [], _, [], hW', trodAll_mk1 (shut_bool Tryz.underlying4 _), (trodAll_cons_mk (shut_int Tryz.underlying3 w0) (trodAll_cons_mk (shut_bool Tryz.underlying4 _) (trodAll_cons_mk (Below.trod laidOut (by kernel_rfl) (of_decide_eq_true (by kernel_rfl)) k2 bel lt2) (trodAll_cons_mk (Below.trod laidOut (by kernel_rfl) (of_decide_eq_true (by kernel_rfl)) k3 bel lt3) trodAll_mk0)))), rfl, bel.frame _, fun h => by cases h⟩
theorem over : Rows.scalarAluRow.holds Tryz.pinned (OpenSpec.ofChange Rows.scalarAluSpec) :=
  OpenClaim.holds_of_wide 3 Tryz.f3 rfl rfl rfl rfl rfl rfl rfl ⟨rfl, rfl, rfl, rfl, rfl⟩ rfl rfl rfl rfl rfl (by kernel_rfl) Tryz.func3 (by kernel_rfl)
    (of_decide_eq_true (by kernel_rfl)) (by unfold Func.isWrapper; first | (rw [if_pos (by decide +kernel)]; kernel_rfl) | (rw [if_neg (by decide +kernel)]; exact ⟨rfl, rfl⟩))
    (fun os started H enc _ => lifted os started H enc)
theorem proved : Rows.ScalarAluSaid := over
#print axioms proved
end Go.Proofs.YtceclodenhgoeaaGreat.rowScalarAlu
namespace Go.Proofs.YtceclodenhgoeaaGreat
/-- The row, under a short name, for the claim. -/
theorem scalarAlu_holds : Rows.ScalarAluSaid := rowScalarAlu.proved
end Go.Proofs.YtceclodenhgoeaaGreat
