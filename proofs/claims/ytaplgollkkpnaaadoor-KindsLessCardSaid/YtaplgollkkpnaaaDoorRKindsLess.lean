/- KindsLess, of the given program: for every input the law answers true, and its arguments read as before. -/
import Derived.Test.YtaplgollkkpnaaaDoorRows
import Derived.Test.YtaplgollkkpnaaaDoorLKindsLess
import Derived.Test.YtaplgollkkpnaaaDoorFlat
import Derived.WalkKit
import Derived.ProofKit
import Derived.OpenShut
import Derived.ChangeOld
import Derived.Below
import Derived.SizedLaws
import Derived.SevenTiedAt
import Derived.Stop.Joined
import Derived.LaidMore
import Derived.Test.YtaplgollkkpnaaaDoorDLaid
import Derived.Test.YtaplgollkkpnaaaDoorTie
import Derived.Test.YtaplgollkkpnaaaDoorCards
namespace Go.Proofs.YtaplgollkkpnaaaDoor.rowKindsLess
open Go Go.ChangeShapes Go.WideShapes Go.ChangeAt Go.RowKit Go.Proofs.YtaplgollkkpnaaaDoor.Flat
set_option linter.unusedVariables false
theorem own : ownKnob Tryd.prog.godebug = none := by kernel_rfl
theorem laidOut : laidOutB Tryd.prog = true := by kernel_rfl
theorem flat32 : flatK Tryd.prog 12 32 = some [.int .i64, .int .u64, .int .u64, .int .u64, .int .u64, .int .i64, .int .i64, .int .i64, .int .i64, .int .i64, .int .i64] := by kernel_rfl
theorem flat34 : flatK Tryd.prog 12 34 = some [.int .i64, .int .u64, .int .i64] := by kernel_rfl
set_option maxRecDepth 100000 in
theorem lifted (os : Os) (started : os.Started) (H : Type) (enc : TypeId × Value → H) :
    ReturnsInHanded {} Tryd.checked os 3 .any (fun w args => (Rows.kindsLessSpec.pre enc Tryd.prog Tryd.f3 Rows.kindsLessRow.domain false w args ∧ laidMetH Tryd.prog DLaid.laidL w) ∧ sizedMet enc Tryd.prog Tryd.f3 (OpenSpec.ofChange Rows.kindsLessSpec) false w args) (Rows.kindsLessSpec.post enc Tryd.prog Tryd.f3 false true false false) := by
  refine returnsInHanded_of_change_and (C := Tryd.checked) (X := fun w _ => laidMetH Tryd.prog DLaid.laidL w) (fun _ _ _ hh h => h.of_heap hh) own started (by kernel_rfl) Tryd.func3
    (ChangeSpec.witness_shaped (enc := enc) (C := Tryd.checked) (os := os) (X := fun w _ => laidMetH Tryd.prog DLaid.laidL w) false (World.doorLaid Tryd.prog 22 os) #[.agg #[.int .i64 0, .int .u64 0, .int .u64 0, .int .u64 0, .int .u64 0, .int .i64 0, .int .i64 0, .int .i64 0, .int .i64 0, .int .i64 0, .int .i64 0], .agg #[.int .i64 0, .int .u64 0, .int .u64 0, .int .u64 0, .int .u64 0, .int .i64 0, .int .i64 0, .int .i64 0, .int .i64 0, .int .i64 0, .int .i64 0], .agg #[.int .i64 0, .int .u64 0, .int .i64 0], .int .i64 0, .int .u64 0, .int .i64 0] 8 rfl (World.shaped_of_RefB (by kernel_rfl) (by kernel_rfl)) (by kernel_rfl) (by kernel_rfl) (by kernel_rfl) (DLaid.door_met os _)) ?_
  intro W base args ds gs before hval0 hW hcnd hsz0 hL _
  have hval : ∀ (j : Nat) t v, Tryd.f3.params[j]? = some t → args[j]? = some v → Value.okWide Tryd.prog W .any base t v := hval0
  have hW' := hW
  obtain ⟨p, q, hA0, hV, rfl, hfz, hnd⟩ := hW
  have hA : DataW.TrodAll enc Tryd.prog W 0 (fun _ => true) true Tryd.f3.params.toList args.toList ds p := hA0
  rw [Tryd.params3] at hA hval
  obtain ⟨v0, vs0, d0, ds0, p0, q0, hargs, rfl, rfl, h0, r0⟩ := trodAll_cons hA
  obtain ⟨v1, vs1, d1, ds1, p1, q1, rfl, rfl, rfl, h1, r1⟩ := trodAll_cons r0
  obtain ⟨v2, vs2, d2, ds2, p2, q2, rfl, rfl, rfl, h2, r2⟩ := trodAll_cons r1
  obtain ⟨v3, vs3, d3, ds3, p3, q3, rfl, rfl, rfl, h3, r3⟩ := trodAll_cons r2
  obtain ⟨v4, vs4, d4, ds4, p4, q4, rfl, rfl, rfl, h4, r4⟩ := trodAll_cons r3
  obtain ⟨v5, vs5, d5, ds5, p5, q5, rfl, rfl, rfl, h5, r5⟩ := trodAll_cons r4
  obtain ⟨rfl, rfl, rfl⟩ := trodAll_nil r5
  obtain rfl : args = #[v0, v1, v2, v3, v4, v5] := by cases args; simp_all
  obtain ⟨rfl, rfl⟩ := trodVars_none hV
  have k0 := h0
  have lt0 : ∀ x ∈ p0, x.block < W.heap.size := by obtain ⟨m, hm⟩ := k0; exact DataW.trod_lt m _ _ _ hm
  obtain ⟨cs0, e0, g0⟩ := open_flat flat32 Tryd.underlying32 (hval 0 32 v0 rfl rfl) h0
  obtain ⟨a0_0, cs0, rfl, w0_0, g0⟩ := ok_int g0
  obtain ⟨a0_1, cs0, rfl, w0_1, g0⟩ := ok_int g0
  obtain ⟨a0_2, cs0, rfl, w0_2, g0⟩ := ok_int g0
  obtain ⟨a0_3, cs0, rfl, w0_3, g0⟩ := ok_int g0
  obtain ⟨a0_4, cs0, rfl, w0_4, g0⟩ := ok_int g0
  obtain ⟨a0_5, cs0, rfl, w0_5, g0⟩ := ok_int g0
  obtain ⟨a0_6, cs0, rfl, w0_6, g0⟩ := ok_int g0
  obtain ⟨a0_7, cs0, rfl, w0_7, g0⟩ := ok_int g0
  obtain ⟨a0_8, cs0, rfl, w0_8, g0⟩ := ok_int g0
  obtain ⟨a0_9, cs0, rfl, w0_9, g0⟩ := ok_int g0
  obtain ⟨a0_10, cs0, rfl, w0_10, g0⟩ := ok_int g0
  obtain rfl := ok_nil g0
  have e0 : v0 = .agg #[.int .i64 a0_0, .int .u64 a0_1, .int .u64 a0_2, .int .u64 a0_3, .int .u64 a0_4, .int .i64 a0_5, .int .i64 a0_6, .int .i64 a0_7, .int .i64 a0_8, .int .i64 a0_9, .int .i64 a0_10] := e0
  subst e0
  clear g0
  have k1 := h1
  have lt1 : ∀ x ∈ p1, x.block < W.heap.size := by obtain ⟨m, hm⟩ := k1; exact DataW.trod_lt m _ _ _ hm
  obtain ⟨cs1, e1, g1⟩ := open_flat flat32 Tryd.underlying32 (hval 1 32 v1 rfl rfl) h1
  obtain ⟨a1_0, cs1, rfl, w1_0, g1⟩ := ok_int g1
  obtain ⟨a1_1, cs1, rfl, w1_1, g1⟩ := ok_int g1
  obtain ⟨a1_2, cs1, rfl, w1_2, g1⟩ := ok_int g1
  obtain ⟨a1_3, cs1, rfl, w1_3, g1⟩ := ok_int g1
  obtain ⟨a1_4, cs1, rfl, w1_4, g1⟩ := ok_int g1
  obtain ⟨a1_5, cs1, rfl, w1_5, g1⟩ := ok_int g1
  obtain ⟨a1_6, cs1, rfl, w1_6, g1⟩ := ok_int g1
  obtain ⟨a1_7, cs1, rfl, w1_7, g1⟩ := ok_int g1
  obtain ⟨a1_8, cs1, rfl, w1_8, g1⟩ := ok_int g1
  obtain ⟨a1_9, cs1, rfl, w1_9, g1⟩ := ok_int g1
  obtain ⟨a1_10, cs1, rfl, w1_10, g1⟩ := ok_int g1
  obtain rfl := ok_nil g1
  have e1 : v1 = .agg #[.int .i64 a1_0, .int .u64 a1_1, .int .u64 a1_2, .int .u64 a1_3, .int .u64 a1_4, .int .i64 a1_5, .int .i64 a1_6, .int .i64 a1_7, .int .i64 a1_8, .int .i64 a1_9, .int .i64 a1_10] := e1
  subst e1
  clear g1
  have k2 := h2
  have lt2 : ∀ x ∈ p2, x.block < W.heap.size := by obtain ⟨m, hm⟩ := k2; exact DataW.trod_lt m _ _ _ hm
  obtain ⟨cs2, e2, g2⟩ := open_flat flat34 Tryd.underlying34 (hval 2 34 v2 rfl rfl) h2
  obtain ⟨a2_0, cs2, rfl, w2_0, g2⟩ := ok_int g2
  obtain ⟨a2_1, cs2, rfl, w2_1, g2⟩ := ok_int g2
  obtain ⟨a2_2, cs2, rfl, w2_2, g2⟩ := ok_int g2
  obtain rfl := ok_nil g2
  have e2 : v2 = .agg #[.int .i64 a2_0, .int .u64 a2_1, .int .i64 a2_2] := e2
  subst e2
  clear g2
  obtain ⟨a3, rfl, rfl, rfl, w3⟩ := open_int Tryd.underlying3 (hval 3 3 v3 rfl rfl) h3
  obtain ⟨a4, rfl, rfl, rfl, w4⟩ := open_int Tryd.underlying22 (hval 4 22 v4 rfl rfl) h4
  obtain ⟨a5, rfl, rfl, rfl, w5⟩ := open_int Tryd.underlying3 (hval 5 3 v5 rfl rfl) h5
  clear hA0 hval0 hsz0
  refine (LKindsLess.calls a0_0 a0_1 a0_2 a0_3 a0_4 a0_5 a0_6 a0_7 a0_8 a0_9 a0_10 a1_0 a1_1 a1_2 a1_3 a1_4 a1_5 a1_6 a1_7 a1_8 a1_9 a1_10 a2_0 a2_1 a2_2 a3 a4 a5 w0_0 w0_1 w0_2 w0_3 w0_4 w0_5 w0_6 w0_7 w0_8 w0_9 w0_10 w1_0 w1_1 w1_2 w1_3 w1_4 w1_5 w1_6 w1_7 w1_8 w1_9 w1_10 w2_0 w2_1 w2_2 w3 w4 w5 W (DLaid.of_laid hL)).mono fun e W' ⟨he, bel0⟩ => ?_
  have bel : Below W.heap.size W W' := bel0
  subst he
  exact ⟨_, rfl, _, _, _, [], _, [], hW', trodAll_mk1 (shut_bool Tryd.underlying4 _), (trodAll_cons_mk (Below.trod laidOut (by kernel_rfl) (of_decide_eq_true (by kernel_rfl)) k0 bel lt0) (trodAll_cons_mk (Below.trod laidOut (by kernel_rfl) (of_decide_eq_true (by kernel_rfl)) k1 bel lt1) (trodAll_cons_mk (Below.trod laidOut (by kernel_rfl) (of_decide_eq_true (by kernel_rfl)) k2 bel lt2) (trodAll_cons_mk (shut_int Tryd.underlying3 w3) (trodAll_cons_mk (shut_int Tryd.underlying22 w4) (trodAll_cons_mk (shut_int Tryd.underlying3 w5) trodAll_mk0)))))), rfl, bel.frame _, fun h => by cases h⟩
theorem over : Rows.kindsLessRow.holds Tryd.pinned (OpenSpec.ofChange Rows.kindsLessSpec) :=
  OpenClaim.holds_of_wide 3 Tryd.f3 rfl rfl rfl rfl rfl rfl rfl ⟨rfl, rfl, rfl, rfl, rfl⟩ rfl rfl rfl rfl rfl (by kernel_rfl) Tryd.func3 (by kernel_rfl)
    (of_decide_eq_true (by kernel_rfl)) (by unfold Func.isWrapper; first | (rw [if_pos (by decide +kernel)]; kernel_rfl) | (rw [if_neg (by decide +kernel)]; exact ⟨rfl, rfl⟩))
    (fun os started H enc _ => lifted os started H enc)
theorem proved : Rows.KindsLessCardSaid :=
  Claim7.holds_tied_plain_at .later [] [.data] true (true, "5e3e16b1921c2ec8b1459d5cc73faf8788ecd05fb4590383a4ece2d2eecf6567") false
    over (fun _ h => by cases h) (by kernel_rfl) (fun _ h => by cases h) kindsLess_row_tie rfl ⟨rfl, rfl⟩ (by kernel_rfl) rfl
    (fun f fn hf hfn => by
      obtain rfl : f = 3 := Option.some.inj ((show Tryd.prog.funcNamed "lockgate/lockgatelaw18.KindsLess" = some 3 by kernel_rfl).symm.trans hf) |>.symm
      obtain rfl : fn = Tryd.f3 := (Option.some.inj (Tryd.func3.symm.trans hfn)).symm
      exact ⟨by kernel_rfl, fun j t ht => by
        rw [Tryd.params3] at ht
        have hm : t ∈ [32, 32, 34, 3, 22, 3] := by simpa using Array.mem_of_getElem? ht
        have hall : ([32, 32, 34, 3, 22, 3].all fun u => !Tryd.prog.wantsStandIn u) = true := by kernel_rfl
        exact (show Tryd.prog.wantsStandIn t = false by simpa using List.all_eq_true.1 hall t hm)⟩)
    (by kernel_rfl)
#print axioms proved
end Go.Proofs.YtaplgollkkpnaaaDoor.rowKindsLess
namespace Go.Proofs.YtaplgollkkpnaaaDoor
/-- The row, under a short name, for the claim. -/
theorem kindsLess_holds : Rows.KindsLessCardSaid := rowKindsLess.proved
end Go.Proofs.YtaplgollkkpnaaaDoor
