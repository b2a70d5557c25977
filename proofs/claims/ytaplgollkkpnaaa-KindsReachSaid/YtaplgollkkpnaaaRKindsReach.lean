/- KindsReach, of the given program: for every input the law answers true, and its arguments read as before. -/
import Derived.Test.YtaplgollkkpnaaaRows
import Derived.Test.YtaplgollkkpnaaaPA28
import Derived.Test.YtaplgollkkpnaaaLKindsReach
import Derived.Test.YtaplgollkkpnaaaFlatRows
import Derived.WalkKit
import Derived.ProofKit
import Derived.OpenShut
import Derived.ChangeOld
import Derived.Below
import Derived.SizedLaws
namespace Go.Proofs.Ytaplgollkkpnaaa.rowKindsReach
open Go.ChangeShapes Go.WideShapes Go.ChangeAt Go.RowKit Go.Proofs.Ytaplgollkkpnaaa.Flat
set_option linter.unusedVariables false
theorem own : ownKnob Try.prog.godebug = none := by kernel_rfl
theorem laidOut : laidOutB Try.prog = true := by kernel_rfl
theorem flat32 : flatK Try.prog 12 32 = some [.int .i64, .int .u64, .int .u64, .int .u64, .int .u64, .int .i64, .int .i64, .int .i64, .int .i64, .int .i64, .int .i64] := by kernel_rfl
theorem flat37 : flatK Try.prog 12 37 = some [.int .i64, .int .i64, .int .i64, .int .i64] := by kernel_rfl
open Go.Proofs.YtaplgollkkpnaaaW.PrintWords Go.Proofs.YtaplgollkkpnaaaW.PrintLast Go.Proofs.YtaplgollkkpnaaaW.PrintMore Go.Proofs.Ytaplgollkkpnaaa.PA in
theorem row33 {H : Type} {enc : TypeId × Value → H} {W : World} {base : Nat} {spare : Nat → Bool} {held : Bool} {A : Option Addr} {n c : Nat} {d : DataW H} {p : List MemPlace} (h : DataW.Trod enc Try.prog W base spare held 33 (.slice A n c) d p) :
    ∃ l : List S37, l.length = n ∧ Kd.C k37 W A l.length l ∧ l.length ≤ c ∧ l.length ≤ maxLen ∧ ∀ x ∈ l, (Lit.int .i64 x.f0).wf = true ∧ (Lit.int .i64 x.f1).wf = true ∧ (Lit.int .i64 x.f2).wf = true ∧ (Lit.int .i64 x.f3).wf = true := by
  obtain ⟨fuel, hf⟩ := h
  have hsz : Try.prog.cellsOf 37 = 4 := by kernel_rfl
  rcases open_rows Try.underlying33 flat37 hf with h0 | ⟨a, len, cap, css, hcs, h1, h2, h3, h4⟩
  · simp [Value.cells] at h0
    obtain ⟨rfl, rfl, rfl⟩ := h0
    exact ⟨[], rfl, ⟨rfl, by simp, fun hn => absurd hn (by simp)⟩, by simp, by simp, by simp⟩
  · simp [Value.cells] at hcs
    obtain ⟨rfl, rfl, rfl⟩ := hcs
    rw [hsz] at h4
    have key : ∀ (x : S37) (j : Nat), (css.map (fun c => (⟨nV (c.getD 0 (.bool false)), nV (c.getD 1 (.bool false)), nV (c.getD 2 (.bool false)), nV (c.getD 3 (.bool false))⟩ : S37)))[j]? = some x → ∃ c, c.length = 4 ∧ Kd.K k37 W x c ∧ (∀ i u, c[i]? = some u → W.cell? (a.add (j * 4 + i)) = some u) ∧ (Lit.int .i64 x.f0).wf = true ∧ (Lit.int .i64 x.f1).wf = true ∧ (Lit.int .i64 x.f2).wf = true ∧ (Lit.int .i64 x.f3).wf = true := by
      intro x j hj
      rw [List.getElem?_map, Option.map_eq_some_iff] at hj
      obtain ⟨c, hc, rfl⟩ := hj
      obtain ⟨g, hcell⟩ := h4 j c hc
      have hlen := g.length
      obtain ⟨n0, cs, rfl, w0, g⟩ := ok_int g
      obtain ⟨n1, cs, rfl, w1, g⟩ := ok_int g
      obtain ⟨n2, cs, rfl, w2, g⟩ := ok_int g
      obtain ⟨n3, cs, rfl, w3, g⟩ := ok_int g
      obtain rfl := ok_nil g
      exact ⟨_, by first | rfl | simp, k37_mk W _, hcell, w0, w1, w2, w3⟩
    refine ⟨css.map (fun c => (⟨nV (c.getD 0 (.bool false)), nV (c.getD 1 (.bool false)), nV (c.getD 2 (.bool false)), nV (c.getD 3 (.bool false))⟩ : S37)), by simpa using h3, ⟨rfl, by rw [List.length_map]; unfold maxLen at h2; omega, fun _ => ⟨a, rfl, fun j p hj => ?_⟩⟩, by rw [List.length_map]; omega, by rw [List.length_map]; omega, fun x hx => ?_⟩
    · obtain ⟨c, q1, q2, q3, _⟩ := key p j hj
      exact ⟨c, q1, q2, q3⟩
    · obtain ⟨j, hj⟩ := List.getElem?_of_mem hx
      obtain ⟨_, _, _, _, q⟩ := key x j hj
      exact q
set_option maxRecDepth 100000 in
theorem lifted (os : Os) (started : os.Started) (H : Type) (enc : TypeId × Value → H) :
    ReturnsInHanded {} Try.checked os 3 .any (Rows.kindsReachSpec.pre6 enc Try.prog Try.f3 Rows.kindsReachRow.domain false) (Rows.kindsReachSpec.post enc Try.prog Try.f3 false true false false) := by
  refine returnsInHanded_of_change_sized (C := Try.checked) own started (by kernel_rfl) Try.func3
    (ChangeSpec.witness6 (enc := enc) (C := Try.checked) false ⟨#[], #[.agg #[.int .i64 0, .int .u64 0, .int .u64 0, .int .u64 0, .int .u64 0, .int .i64 0, .int .i64 0, .int .i64 0, .int .i64 0, .int .i64 0, .int .i64 0], .int .i64 0, .int .i64 0, .bool false, .slice none 0 0], []⟩ 8 (by kernel_rfl) (by kernel_rfl) (by kernel_rfl) (by kernel_rfl)) ?_
  intro W base args ds gs before hval0 hW hcnd hsz0 _
  have hval : ∀ (j : Nat) t v, Try.f3.params[j]? = some t → args[j]? = some v → Value.okWide Try.prog W .any base t v := hval0
  have hW' := hW
  obtain ⟨p, q, hA0, hV, rfl, hfz, hnd⟩ := hW
  have hA : DataW.TrodAll enc Try.prog W 0 (fun _ => true) true Try.f3.params.toList args.toList ds p := hA0
  rw [Try.params3] at hA hval
  obtain ⟨v0, vs0, d0, ds0, p0, q0, hargs, rfl, rfl, h0, r0⟩ := trodAll_cons hA
  obtain ⟨v1, vs1, d1, ds1, p1, q1, rfl, rfl, rfl, h1, r1⟩ := trodAll_cons r0
  obtain ⟨v2, vs2, d2, ds2, p2, q2, rfl, rfl, rfl, h2, r2⟩ := trodAll_cons r1
  obtain ⟨v3, vs3, d3, ds3, p3, q3, rfl, rfl, rfl, h3, r3⟩ := trodAll_cons r2
  obtain ⟨v4, vs4, d4, ds4, p4, q4, rfl, rfl, rfl, h4, r4⟩ := trodAll_cons r3
  obtain ⟨rfl, rfl, rfl⟩ := trodAll_nil r4
  obtain rfl : args = #[v0, v1, v2, v3, v4] := by cases args; simp_all
  obtain ⟨rfl, rfl⟩ := trodVars_none hV
  have k0 := h0
  have lt0 : ∀ x ∈ p0, x.block < W.heap.size := by obtain ⟨m, hm⟩ := k0; exact DataW.trod_lt m _ _ _ hm
  obtain ⟨cs0, e0, g0⟩ := open_flat flat32 Try.underlying32 (hval 0 32 v0 rfl rfl) h0
  obtain ⟨a0_0, cs0, rfl, w0_0, g0⟩ := ok_int g0
  obtain ⟨a0_1, cs0, rfl, w0_1, g0⟩ := ok_int g0
  obtain ⟨a0_2, cs0, rfl, w0_2, g0⟩ := ok_int g0
  obtain ⟨a0_3, cs0, rfl, w0_3, g0⟩ := ok_int g0
  obtain ⟨a0_4, cs0, rfl, w0_4, g0⟩ := ok_int g0
  obtain ⟨a0_5, cs0, rfl, w0_5, g0⟩ := ok_int g0
  obtain ⟨a0_6, cs0, rfl, w0_6, g0⟩ := ok_int g0
  obtain ⟨a0_7, cs0, rfl, w0_7, g0⟩ := ok_int g0
  obtain ⟨a0_8, cs0, rfl, w0_8, g0⟩ := ok_int g0
  obtain ⟨a0_9, cs0, rfl, w0_9, g0⟩ := ok_int g0
  obtain ⟨a0_10, cs0, rfl, w0_10, g0⟩ := ok_int g0
  obtain rfl := ok_nil g0
  have e0 : v0 = .agg #[.int .i64 a0_0, .int .u64 a0_1, .int .u64 a0_2, .int .u64 a0_3, .int .u64 a0_4, .int .i64 a0_5, .int .i64 a0_6, .int .i64 a0_7, .int .i64 a0_8, .int .i64 a0_9, .int .i64 a0_10] := e0
  subst e0
  clear g0
  obtain ⟨a1, rfl, rfl, rfl, w1⟩ := open_int Try.underlying3 (hval 1 3 v1 rfl rfl) h1
  obtain ⟨a2, rfl, rfl, rfl, w2⟩ := open_int Try.underlying3 (hval 2 3 v2 rfl rfl) h2
  obtain ⟨a3, rfl, rfl, rfl⟩ := open_bool Try.underlying4 (hval 3 4 v3 rfl rfl) h3
  obtain ⟨A4, n4, c4, rfl⟩ := okWide_slice Try.underlying33 (hval 4 33 v4 rfl rfl)
  have k4 := h4
  have lt4 : ∀ x ∈ p4, x.block < W.heap.size := by obtain ⟨m, hm⟩ := k4; exact DataW.trod_lt m _ _ _ hm
  obtain ⟨l4, rfl, hr4, hc4, hm4, hw4⟩ := row33 h4
  clear hA0 hval0 hsz0
  obtain ⟨k, hk⟩ := LKindsReach.pure a0_0 a0_1 a0_2 a0_3 a0_4 a0_5 a0_6 a0_7 a0_8 a0_9 a0_10 a1 a2 a3 l4 w0_0 w0_1 w0_2 w0_3 w0_4 w0_5 w0_6 w0_7 w0_8 w0_9 w0_10 w1 w2 hm4 hw4
  refine (PA.lockgatelaw18_KindsReach.calls k a0_0 a0_1 a0_2 a0_3 a0_4 a0_5 a0_6 a0_7 a0_8 a0_9 a0_10 a1 a2 a3 _ _ l4 true W hr4 hc4 (.mk rfl) hk).mono fun e W' ⟨he, bel0⟩ => ?_
  have bel : Below W.heap.size W W' := bel0
  subst he
  exact ⟨_, rfl, _, _, _, [], _, [], hW', trodAll_mk1 (shut_bool Try.underlying4 _), (trodAll_cons_mk (Below.trod laidOut (by kernel_rfl) (of_decide_eq_true (by kernel_rfl)) k0 bel lt0) (trodAll_cons_mk (shut_int Try.underlying3 w1) (trodAll_cons_mk (shut_int Try.underlying3 w2) (trodAll_cons_mk (shut_bool Try.underlying4 _) (trodAll_cons_mk (Below.trod laidOut (by kernel_rfl) (of_decide_eq_true (by kernel_rfl)) k4 bel lt4) trodAll_mk0))))), rfl, bel.frame _, fun h => by cases h⟩
theorem over : Rows.kindsReachRow.holds Try.pinned (OpenSpec.ofChange Rows.kindsReachSpec) :=
  OpenClaim.holds_of_wide 3 Try.f3 rfl rfl rfl rfl rfl rfl rfl ⟨rfl, rfl, rfl, rfl, rfl⟩ rfl rfl rfl rfl rfl (by kernel_rfl) Try.func3 (by kernel_rfl)
    (of_decide_eq_true (by kernel_rfl)) (by unfold Func.isWrapper; first | (rw [if_pos (by decide +kernel)]; kernel_rfl) | (rw [if_neg (by decide +kernel)]; exact ⟨rfl, rfl⟩))
    (fun os started H enc _ => lifted os started H enc)
theorem proved : Rows.KindsReachSaid := over
#print axioms proved
end Go.Proofs.Ytaplgollkkpnaaa.rowKindsReach
namespace Go.Proofs.Ytaplgollkkpnaaa
/-- The row, under a short name, for the claim. -/
theorem kindsReach_holds : Rows.KindsReachSaid := rowKindsReach.proved
end Go.Proofs.Ytaplgollkkpnaaa
