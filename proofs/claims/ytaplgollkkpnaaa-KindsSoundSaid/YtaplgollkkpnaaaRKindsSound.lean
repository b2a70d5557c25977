/- KindsSound, of the given program: for every input the law answers true, and its arguments read as before. -/
import Derived.Test.YtaplgollkkpnaaaRows
import Derived.Test.YtaplgollkkpnaaaLKindsSound
import Derived.Test.YtaplgollkkpnaaaFlat
import Derived.WalkKit
import Derived.ProofKit
import Derived.OpenShut
import Derived.ChangeOld
import Derived.Below
import Derived.SizedLaws
namespace Go.Proofs.Ytaplgollkkpnaaa.rowKindsSound
open Go.ChangeShapes Go.WideShapes Go.ChangeAt Go.RowKit Go.Proofs.Ytaplgollkkpnaaa.Flat
set_option linter.unusedVariables false
theorem own : ownKnob Try.prog.godebug = none := by kernel_rfl
theorem laidOut : laidOutB Try.prog = true := by kernel_rfl
theorem flat32 : flatK Try.prog 12 32 = some [.int .i64, .int .u64, .int .u64, .int .u64, .int .u64, .int .i64, .int .i64, .int .i64, .int .i64, .int .i64, .int .i64] := by kernel_rfl
theorem flat44 : flatK Try.prog 12 44 = some [.int .i64, .int .u64, .int .i64] := by kernel_rfl
set_option maxRecDepth 100000 in
theorem lifted (os : Os) (started : os.Started) (H : Type) (enc : TypeId × Value → H) :
    ReturnsInHanded {} Try.checked os 5 .any (Rows.kindsSoundSpec.pre6 enc Try.prog Try.f5 Rows.kindsSoundRow.domain false) (Rows.kindsSoundSpec.post enc Try.prog Try.f5 false true false false) := by
  refine returnsInHanded_of_change_sized (C := Try.checked) own started (by kernel_rfl) Try.func5
    (ChangeSpec.witness6 (enc := enc) (C := Try.checked) false ⟨#[], #[.int .i64 0, .bool false, .agg #[.int .i64 0, .int .u64 0, .int .u64 0, .int .u64 0, .int .u64 0, .int .i64 0, .int .i64 0, .int .i64 0, .int .i64 0, .int .i64 0, .int .i64 0], .agg #[.int .i64 0, .int .u64 0, .int .u64 0, .int .u64 0, .int .u64 0, .int .i64 0, .int .i64 0, .int .i64 0, .int .i64 0, .int .i64 0, .int .i64 0], .agg #[.int .i64 0, .int .u64 0, .int .i64 0], .agg #[.int .i64 0, .int .u64 0, .int .i64 0], .int .i64 0, .int .u64 0, .int .i64 0], []⟩ 8 (by kernel_rfl) (by kernel_rfl) (by kernel_rfl) (by kernel_rfl)) ?_
  intro W base args ds gs before hval0 hW hcnd hsz0 _
  have hval : ∀ (j : Nat) t v, Try.f5.params[j]? = some t → args[j]? = some v → Value.okWide Try.prog W .any base t v := hval0
  have hW' := hW
  obtain ⟨p, q, hA0, hV, rfl, hfz, hnd⟩ := hW
  have hA : DataW.TrodAll enc Try.prog W 0 (fun _ => true) true Try.f5.params.toList args.toList ds p := hA0
  rw [Try.params5] at hA hval
  obtain ⟨v0, vs0, d0, ds0, p0, q0, hargs, rfl, rfl, h0, r0⟩ := trodAll_cons hA
  obtain ⟨v1, vs1, d1, ds1, p1, q1, rfl, rfl, rfl, h1, r1⟩ := trodAll_cons r0
  obtain ⟨v2, vs2, d2, ds2, p2, q2, rfl, rfl, rfl, h2, r2⟩ := trodAll_cons r1
  obtain ⟨v3, vs3, d3, ds3, p3, q3, rfl, rfl, rfl, h3, r3⟩ := trodAll_cons r2
  obtain ⟨v4, vs4, d4, ds4, p4, q4, rfl, rfl, rfl, h4, r4⟩ := trodAll_cons r3
  obtain ⟨v5, vs5, d5, ds5, p5, q5, rfl, rfl, rfl, h5, r5⟩ := trodAll_cons r4
  obtain ⟨v6, vs6, d6, ds6, p6, q6, rfl, rfl, rfl, h6, r6⟩ := trodAll_cons r5
  obtain ⟨v7, vs7, d7, ds7, p7, q7, rfl, rfl, rfl, h7, r7⟩ := trodAll_cons r6
  obtain ⟨v8, vs8, d8, ds8, p8, q8, rfl, rfl, rfl, h8, r8⟩ := trodAll_cons r7
  obtain ⟨rfl, rfl, rfl⟩ := trodAll_nil r8
  obtain rfl : args = #[v0, v1, v2, v3, v4, v5, v6, v7, v8] := by cases args; simp_all
  obtain ⟨rfl, rfl⟩ := trodVars_none hV
  obtain ⟨a0, rfl, rfl, rfl, w0⟩ := open_int Try.underlying3 (hval 0 3 v0 rfl rfl) h0
  obtain ⟨a1, rfl, rfl, rfl⟩ := open_bool Try.underlying4 (hval 1 4 v1 rfl rfl) h1
  have k2 := h2
  have lt2 : ∀ x ∈ p2, x.block < W.heap.size := by obtain ⟨m, hm⟩ := k2; exact DataW.trod_lt m _ _ _ hm
  obtain ⟨cs2, e2, g2⟩ := open_flat flat32 Try.underlying32 (hval 2 32 v2 rfl rfl) h2
  obtain ⟨a2_0, cs2, rfl, w2_0, g2⟩ := ok_int g2
  obtain ⟨a2_1, cs2, rfl, w2_1, g2⟩ := ok_int g2
  obtain ⟨a2_2, cs2, rfl, w2_2, g2⟩ := ok_int g2
  obtain ⟨a2_3, cs2, rfl, w2_3, g2⟩ := ok_int g2
  obtain ⟨a2_4, cs2, rfl, w2_4, g2⟩ := ok_int g2
  obtain ⟨a2_5, cs2, rfl, w2_5, g2⟩ := ok_int g2
  obtain ⟨a2_6, cs2, rfl, w2_6, g2⟩ := ok_int g2
  obtain ⟨a2_7, cs2, rfl, w2_7, g2⟩ := ok_int g2
  obtain ⟨a2_8, cs2, rfl, w2_8, g2⟩ := ok_int g2
  obtain ⟨a2_9, cs2, rfl, w2_9, g2⟩ := ok_int g2
  obtain ⟨a2_10, cs2, rfl, w2_10, g2⟩ := ok_int g2
  obtain rfl := ok_nil g2
  have e2 : v2 = .agg #[.int .i64 a2_0, .int .u64 a2_1, .int .u64 a2_2, .int .u64 a2_3, .int .u64 a2_4, .int .i64 a2_5, .int .i64 a2_6, .int .i64 a2_7, .int .i64 a2_8, .int .i64 a2_9, .int .i64 a2_10] := e2
  subst e2
  clear g2
  have k3 := h3
  have lt3 : ∀ x ∈ p3, x.block < W.heap.size := by obtain ⟨m, hm⟩ := k3; exact DataW.trod_lt m _ _ _ hm
  obtain ⟨cs3, e3, g3⟩ := open_flat flat32 Try.underlying32 (hval 3 32 v3 rfl rfl) h3
  obtain ⟨a3_0, cs3, rfl, w3_0, g3⟩ := ok_int g3
  obtain ⟨a3_1, cs3, rfl, w3_1, g3⟩ := ok_int g3
  obtain ⟨a3_2, cs3, rfl, w3_2, g3⟩ := ok_int g3
  obtain ⟨a3_3, cs3, rfl, w3_3, g3⟩ := ok_int g3
  obtain ⟨a3_4, cs3, rfl, w3_4, g3⟩ := ok_int g3
  obtain ⟨a3_5, cs3, rfl, w3_5, g3⟩ := ok_int g3
  obtain ⟨a3_6, cs3, rfl, w3_6, g3⟩ := ok_int g3
  obtain ⟨a3_7, cs3, rfl, w3_7, g3⟩ := ok_int g3
  obtain ⟨a3_8, cs3, rfl, w3_8, g3⟩ := ok_int g3
  obtain ⟨a3_9, cs3, rfl, w3_9, g3⟩ := ok_int g3
  obtain ⟨a3_10, cs3, rfl, w3_10, g3⟩ := ok_int g3
  obtain rfl := ok_nil g3
  have e3 : v3 = .agg #[.int .i64 a3_0, .int .u64 a3_1, .int .u64 a3_2, .int .u64 a3_3, .int .u64 a3_4, .int .i64 a3_5, .int .i64 a3_6, .int .i64 a3_7, .int .i64 a3_8, .int .i64 a3_9, .int .i64 a3_10] := e3
  subst e3
  clear g3
  have k4 := h4
  have lt4 : ∀ x ∈ p4, x.block < W.heap.size := by obtain ⟨m, hm⟩ := k4; exact DataW.trod_lt m _ _ _ hm
  obtain ⟨cs4, e4, g4⟩ := open_flat flat44 Try.underlying44 (hval 4 44 v4 rfl rfl) h4
  obtain ⟨a4_0, cs4, rfl, w4_0, g4⟩ := ok_int g4
  obtain ⟨a4_1, cs4, rfl, w4_1, g4⟩ := ok_int g4
  obtain ⟨a4_2, cs4, rfl, w4_2, g4⟩ := ok_int g4
  obtain rfl := ok_nil g4
  have e4 : v4 = .agg #[.int .i64 a4_0, .int .u64 a4_1, .int .i64 a4_2] := e4
  subst e4
  clear g4
  have k5 := h5
  have lt5 : ∀ x ∈ p5, x.block < W.heap.size := by obtain ⟨m, hm⟩ := k5; exact DataW.trod_lt m _ _ _ hm
  obtain ⟨cs5, e5, g5⟩ := open_flat flat44 Try.underlying44 (hval 5 44 v5 rfl rfl) h5
  obtain ⟨a5_0, cs5, rfl, w5_0, g5⟩ := ok_int g5
  obtain ⟨a5_1, cs5, rfl, w5_1, g5⟩ := ok_int g5
  obtain ⟨a5_2, cs5, rfl, w5_2, g5⟩ := ok_int g5
  obtain rfl := ok_nil g5
  have e5 : v5 = .agg #[.int .i64 a5_0, .int .u64 a5_1, .int .i64 a5_2] := e5
  subst e5
  clear g5
  obtain ⟨a6, rfl, rfl, rfl, w6⟩ := open_int Try.underlying3 (hval 6 3 v6 rfl rfl) h6
  obtain ⟨a7, rfl, rfl, rfl, w7⟩ := open_int Try.underlying22 (hval 7 22 v7 rfl rfl) h7
  obtain ⟨a8, rfl, rfl, rfl, w8⟩ := open_int Try.underlying3 (hval 8 3 v8 rfl rfl) h8
  clear hA0 hval0 hsz0
  refine (LKindsSound.calls a0 a1 a2_0 a2_1 a2_2 a2_3 a2_4 a2_5 a2_6 a2_7 a2_8 a2_9 a2_10 a3_0 a3_1 a3_2 a3_3 a3_4 a3_5 a3_6 a3_7 a3_8 a3_9 a3_10 a4_0 a4_1 a4_2 a5_0 a5_1 a5_2 a6 a7 a8 w0 w2_0 w2_1 w2_2 w2_3 w2_4 w2_5 w2_6 w2_7 w2_8 w2_9 w2_10 w3_0 w3_1 w3_2 w3_3 w3_4 w3_5 w3_6 w3_7 w3_8 w3_9 w3_10 w4_0 w4_1 w4_2 w5_0 w5_1 w5_2 w6 w7 w8 W).mono fun e W' ⟨he, bel0⟩ => ?_
  have bel : Below W.heap.size W W' := bel0
  subst he
  exact ⟨_, rfl, _, _, _, [], _, [], hW', trodAll_mk1 (shut_bool Try.underlying4 _), (trodAll_cons_mk (shut_int Try.underlying3 w0) (trodAll_cons_mk (shut_bool Try.underlying4 _) (trodAll_cons_mk (Below.trod laidOut (by kernel_rfl) (of_decide_eq_true (by kernel_rfl)) k2 bel lt2) (trodAll_cons_mk (Below.trod laidOut (by kernel_rfl) (of_decide_eq_true (by kernel_rfl)) k3 bel lt3) (trodAll_cons_mk (Below.trod laidOut (by kernel_rfl) (of_decide_eq_true (by kernel_rfl)) k4 bel lt4) (trodAll_cons_mk (Below.trod laidOut (by kernel_rfl) (of_decide_eq_true (by kernel_rfl)) k5 bel lt5) (trodAll_cons_mk (shut_int Try.underlying3 w6) (trodAll_cons_mk (shut_int Try.underlying22 w7) (trodAll_cons_mk (shut_int Try.underlying3 w8) trodAll_mk0))))))))), rfl, bel.frame _, fun h => by cases h⟩
theorem over : Rows.kindsSoundRow.holds Try.pinned (OpenSpec.ofChange Rows.kindsSoundSpec) :=
  OpenClaim.holds_of_wide 5 Try.f5 rfl rfl rfl rfl rfl rfl rfl ⟨rfl, rfl, rfl, rfl, rfl⟩ rfl rfl rfl rfl rfl (by kernel_rfl) Try.func5 (by kernel_rfl)
    (of_decide_eq_true (by kernel_rfl)) (by unfold Func.isWrapper; first | (rw [if_pos (by decide +kernel)]; kernel_rfl) | (rw [if_neg (by decide +kernel)]; exact ⟨rfl, rfl⟩))
    (fun os started H enc _ => lifted os started H enc)
theorem proved : Rows.KindsSoundSaid := over
#print axioms proved
end Go.Proofs.Ytaplgollkkpnaaa.rowKindsSound
namespace Go.Proofs.Ytaplgollkkpnaaa
/-- The row, under a short name, for the claim. -/
theorem kindsSound_holds : Rows.KindsSoundSaid := rowKindsSound.proved
end Go.Proofs.Ytaplgollkkpnaaa
