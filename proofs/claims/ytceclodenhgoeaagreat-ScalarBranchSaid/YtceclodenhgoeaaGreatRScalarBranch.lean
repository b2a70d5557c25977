/- ScalarBranch, of the given program: for every input the law answers true, and its arguments read as before. -/
import Derived.Test.YtceclodenhgoeaaGreatRows
import Derived.Test.YtceclodenhgoeaaGreatLScalarBranch
import Derived.Test.YtceclodenhgoeaaGreatFlat
import Derived.WalkKit
import Derived.ProofKit
import Derived.OpenShut
import Derived.ChangeOld
import Derived.Below
import Derived.SizedLaws
namespace Go.Proofs.YtceclodenhgoeaaGreat.rowScalarBranch
open Go.ChangeShapes Go.WideShapes Go.ChangeAt Go.RowKit Go.Proofs.YtceclodenhgoeaaGreat.Flat
set_option linter.unusedVariables false
theorem own : ownKnob Tryz.prog.godebug = none := by kernel_rfl
theorem laidOut : laidOutB Tryz.prog = true := by kernel_rfl
theorem flat30 : flatK Tryz.prog 12 30 = some [.int .u64, .int .u64, .int .u64, .int .u64, .int .i64, .int .i64] := by kernel_rfl
set_option maxRecDepth 100000 in
theorem lifted (os : Os) (started : os.Started) (H : Type) (enc : TypeId × Value → H) :
    ReturnsInHanded {} Tryz.checked os 4 .any (Rows.scalarBranchSpec.pre6 enc Tryz.prog Tryz.f4 Rows.scalarBranchRow.domain false) (Rows.scalarBranchSpec.post enc Tryz.prog Tryz.f4 false true false false) := by
  refine returnsInHanded_of_change_sized (C := Tryz.checked) own started (by kernel_rfl) Tryz.func4
    (ChangeSpec.witness6 (enc := enc) (C := Tryz.checked) false ⟨#[], #[.int .i64 0, .bool false, .bool false, .agg #[.int .u64 0, .int .u64 0, .int .u64 0, .int .u64 0, .int .i64 0, .int .i64 0], .agg #[.int .u64 0, .int .u64 0, .int .u64 0, .int .u64 0, .int .i64 0, .int .i64 0]], []⟩ 8 (by kernel_rfl) (by kernel_rfl) (by kernel_rfl) (by kernel_rfl)) ?_
  intro W base args ds gs before hval0 hW hcnd hsz0 _
  have hval : ∀ (j : Nat) t v, Tryz.f4.params[j]? = some t → args[j]? = some v → Value.okWide Tryz.prog W .any base t v := hval0
  have hW' := hW
  obtain ⟨p, q, hA0, hV, rfl, hfz, hnd⟩ := hW
  have hA : DataW.TrodAll enc Tryz.prog W 0 (fun _ => true) true Tryz.f4.params.toList args.toList ds p := hA0
  rw [Tryz.params4] at hA hval
  obtain ⟨v0, vs0, d0, ds0, p0, q0, hargs, rfl, rfl, h0, r0⟩ := trodAll_cons hA
  obtain ⟨v1, vs1, d1, ds1, p1, q1, rfl, rfl, rfl, h1, r1⟩ := trodAll_cons r0
  obtain ⟨v2, vs2, d2, ds2, p2, q2, rfl, rfl, rfl, h2, r2⟩ := trodAll_cons r1
  obtain ⟨v3, vs3, d3, ds3, p3, q3, rfl, rfl, rfl, h3, r3⟩ := trodAll_cons r2
  obtain ⟨v4, vs4, d4, ds4, p4, q4, rfl, rfl, rfl, h4, r4⟩ := trodAll_cons r3
  obtain ⟨rfl, rfl, rfl⟩ := trodAll_nil r4
  obtain rfl : args = #[v0, v1, v2, v3, v4] := by cases args; simp_all
  obtain ⟨rfl, rfl⟩ := trodVars_none hV
  obtain ⟨a0, rfl, rfl, rfl, w0⟩ := open_int Tryz.underlying3 (hval 0 3 v0 rfl rfl) h0
  obtain ⟨a1, rfl, rfl, rfl⟩ := open_bool Tryz.underlying4 (hval 1 4 v1 rfl rfl) h1
  obtain ⟨a2, rfl, rfl, rfl⟩ := open_bool Tryz.underlying4 (hval 2 4 v2 rfl rfl) h2
  have k3 := h3
  have lt3 : ∀ x ∈ p3, x.block < W.heap.size := by obtain ⟨m, hm⟩ := k3; exact DataW.trod_lt m _ _ _ hm
  obtain ⟨cs3, e3, g3⟩ := open_flat flat30 Tryz.underlying30 (hval 3 30 v3 rfl rfl) h3
  obtain ⟨a3_0, cs3, rfl, w3_0, g3⟩ := ok_int g3
  obtain ⟨a3_1, cs3, rfl, w3_1, g3⟩ := ok_int g3
  obtain ⟨a3_2, cs3, rfl, w3_2, g3⟩ := ok_int g3
  obtain ⟨a3_3, cs3, rfl, w3_3, g3⟩ := ok_int g3
  obtain ⟨a3_4, cs3, rfl, w3_4, g3⟩ := ok_int g3
  obtain ⟨a3_5, cs3, rfl, w3_5, g3⟩ := ok_int g3
  obtain rfl := ok_nil g3
  have e3 : v3 = .agg #[.int .u64 a3_0, .int .u64 a3_1, .int .u64 a3_2, .int .u64 a3_3, .int .i64 a3_4, .int .i64 a3_5] := e3
  subst e3
  clear g3
  have k4 := h4
  have lt4 : ∀ x ∈ p4, x.block < W.heap.size := by obtain ⟨m, hm⟩ := k4; exact DataW.trod_lt m _ _ _ hm
  obtain ⟨cs4, e4, g4⟩ := open_flat flat30 Tryz.underlying30 (hval 4 30 v4 rfl rfl) h4
  obtain ⟨a4_0, cs4, rfl, w4_0, g4⟩ := ok_int g4
  obtain ⟨a4_1, cs4, rfl, w4_1, g4⟩ := ok_int g4
  obtain ⟨a4_2, cs4, rfl, w4_2, g4⟩ := ok_int g4
  obtain ⟨a4_3, cs4, rfl, w4_3, g4⟩ := ok_int g4
  obtain ⟨a4_4, cs4, rfl, w4_4, g4⟩ := ok_int g4
  obtain ⟨a4_5, cs4, rfl, w4_5, g4⟩ := ok_int g4
  obtain rfl := ok_nil g4
  have e4 : v4 = .agg #[.int .u64 a4_0, .int .u64 a4_1, .int .u64 a4_2, .int .u64 a4_3, .int .i64 a4_4, .int .i64 a4_5] := e4
  subst e4
  clear g4
  clear hA0 hval0 hsz0
  refine (LScalarBranch.calls a0 a1 a2 a3_0 a3_1 a3_2 a3_3 a3_4 a3_5 a4_0 a4_1 a4_2 a4_3 a4_4 a4_5 w0 w3_0 w3_1 w3_2 w3_3 w3_4 w3_5 w4_0 w4_1 w4_2 w4_3 w4_4 w4_5 W).mono fun e W' ⟨he, bel0⟩ => ?_
  have bel : Below W.heap.size W W' := bel0
  subst he
  exact ⟨_, rfl, _, _, _, [], _, [], hW', trodAll_mk1 (shut_bool Tryz.underlying4 _), (trodAll_cons_mk (shut_int Tryz.underlying3 w0) (trodAll_cons_mk (shut_bool Tryz.underlying4 _) (trodAll_cons_mk (shut_bool Tryz.underlying4 _) (trodAll_cons_mk (Below.trod laidOut (by kernel_rfl) (of_decide_eq_true (by kernel_rfl)) k3 bel lt3) (trodAll_cons_mk (Below.trod laidOut (by kernel_rfl) (of_decide_eq_true (by kernel_rfl)) k4 bel lt4) trodAll_mk0))))), rfl, bel.frame _, fun h => by cases h⟩
theorem over : Rows.scalarBranchRow.holds Tryz.pinned (OpenSpec.ofChange Rows.scalarBranchSpec) :=
  OpenClaim.holds_of_wide 4 Tryz.f4 rfl rfl rfl rfl rfl rfl rfl ⟨rfl, rfl, rfl, rfl, rfl⟩ rfl rfl rfl rfl rfl (by kernel_rfl) Tryz.func4 (by kernel_rfl)
    (of_decide_eq_true (by kernel_rfl)) (by unfold Func.isWrapper; first | (rw [if_pos (by decide +kernel)]; kernel_rfl) | (rw [if_neg (by decide +kernel)]; exact ⟨rfl, rfl⟩))
    (fun os started H enc _ => lifted os started H enc)
theorem proved : Rows.ScalarBranchSaid := over
#print axioms proved
end Go.Proofs.YtceclodenhgoeaaGreat.rowScalarBranch
namespace Go.Proofs.YtceclodenhgoeaaGreat
/-- The row, under a short name, for the claim. -/
theorem scalarBranch_holds : Rows.ScalarBranchSaid := rowScalarBranch.proved
end Go.Proofs.YtceclodenhgoeaaGreat
