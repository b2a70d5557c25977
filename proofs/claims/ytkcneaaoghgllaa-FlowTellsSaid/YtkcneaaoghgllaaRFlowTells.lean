/- FlowTells, of the given program: for every input the law answers true, and its arguments read as before. -/
import Derived.Test.YtkcneaaoghgllaaRows
import Derived.Test.YtkcneaaoghgllaaPA20
import Derived.Test.YtkcneaaoghgllaaLFlowTells
import Derived.Test.YtkcneaaoghgllaaFlatRows
import Derived.WalkKit
import Derived.ProofKit
import Derived.OpenShut
import Derived.ChangeOld
import Derived.Below
import Derived.SizedLaws
namespace Go.Proofs.Ytkcneaaoghgllaa.rowFlowTells
open Go.ChangeShapes Go.WideShapes Go.ChangeAt Go.RowKit Go.Proofs.Ytkcneaaoghgllaa.Flat
set_option linter.unusedVariables false
theorem own : ownKnob Try.prog.godebug = none := by kernel_rfl
theorem laidOut : laidOutB Try.prog = true := by kernel_rfl
theorem flat42 : flatK Try.prog 12 42 = some [.int .i64, .int .i64, .int .i64, .int .i64, .int .i64] := by kernel_rfl
open Go.Proofs.YtkcneaaoghgllaaW.PrintWords Go.Proofs.YtkcneaaoghgllaaW.PrintLast Go.Proofs.YtkcneaaoghgllaaW.PrintMore Go.Proofs.Ytkcneaaoghgllaa.PA in
theorem row22 {H : Type} {enc : TypeId × Value → H} {W : World} {base : Nat} {spare : Nat → Bool} {held : Bool} {A : Option Addr} {n c : Nat} {d : DataW H} {p : List MemPlace} (h : DataW.Trod enc Try.prog W base spare held 22 (.slice A n c) d p) :
    ∃ l : List S42, l.length = n ∧ Kd.C k42 W A l.length l ∧ l.length ≤ c ∧ l.length ≤ maxLen ∧ ∀ x ∈ l, (Lit.int .i64 x.f0).wf = true ∧ (Lit.int .i64 x.f1).wf = true ∧ (Lit.int .i64 x.f2).wf = true ∧ (Lit.int .i64 x.f3).wf = true ∧ (Lit.int .i64 x.f4).wf = true := by
  obtain ⟨fuel, hf⟩ := h
  have hsz : Try.prog.cellsOf 42 = 5 := by kernel_rfl
  rcases open_rows Try.underlying22 flat42 hf with h0 | ⟨a, len, cap, css, hcs, h1, h2, h3, h4⟩
  · simp [Value.cells] at h0
    obtain ⟨rfl, rfl, rfl⟩ := h0
    exact ⟨[], rfl, ⟨rfl, by simp, fun hn => absurd hn (by simp)⟩, by simp, by simp, by simp⟩
  · simp [Value.cells] at hcs
    obtain ⟨rfl, rfl, rfl⟩ := hcs
    rw [hsz] at h4
    have key : ∀ (x : S42) (j : Nat), (css.map (fun c => (⟨nV (c.getD 0 (.bool false)), nV (c.getD 1 (.bool false)), nV (c.getD 2 (.bool false)), nV (c.getD 3 (.bool false)), nV (c.getD 4 (.bool false))⟩ : S42)))[j]? = some x → ∃ c, c.length = 5 ∧ Kd.K k42 W x c ∧ (∀ i u, c[i]? = some u → W.cell? (a.add (j * 5 + i)) = some u) ∧ (Lit.int .i64 x.f0).wf = true ∧ (Lit.int .i64 x.f1).wf = true ∧ (Lit.int .i64 x.f2).wf = true ∧ (Lit.int .i64 x.f3).wf = true ∧ (Lit.int .i64 x.f4).wf = true := by
      intro x j hj
      rw [List.getElem?_map, Option.map_eq_some_iff] at hj
      obtain ⟨c, hc, rfl⟩ := hj
      obtain ⟨g, hcell⟩ := h4 j c hc
      have hlen := g.length
      obtain ⟨n0, cs, rfl, w0, g⟩ := ok_int g
      obtain ⟨n1, cs, rfl, w1, g⟩ := ok_int g
      obtain ⟨n2, cs, rfl, w2, g⟩ := ok_int g
      obtain ⟨n3, cs, rfl, w3, g⟩ := ok_int g
      obtain ⟨n4, cs, rfl, w4, g⟩ := ok_int g
      obtain rfl := ok_nil g
      exact ⟨_, by first | rfl | simp, k42_mk W _, hcell, w0, w1, w2, w3, w4⟩
    refine ⟨css.map (fun c => (⟨nV (c.getD 0 (.bool false)), nV (c.getD 1 (.bool false)), nV (c.getD 2 (.bool false)), nV (c.getD 3 (.bool false)), nV (c.getD 4 (.bool false))⟩ : S42)), by simpa using h3, ⟨rfl, by rw [List.length_map]; unfold maxLen at h2; omega, fun _ => ⟨a, rfl, fun j p hj => ?_⟩⟩, by rw [List.length_map]; omega, by rw [List.length_map]; omega, fun x hx => ?_⟩
    · obtain ⟨c, q1, q2, q3, _⟩ := key p j hj
      exact ⟨c, q1, q2, q3⟩
    · obtain ⟨j, hj⟩ := List.getElem?_of_mem hx
      obtain ⟨_, _, _, _, q⟩ := key x j hj
      exact q
set_option maxRecDepth 100000 in
theorem lifted (os : Os) (started : os.Started) (H : Type) (enc : TypeId × Value → H) :
    ReturnsInHanded {} Try.checked os 3 .any (Rows.flowTellsSpec.pre6 enc Try.prog Try.f3 Rows.flowTellsRow.domain false) (Rows.flowTellsSpec.post enc Try.prog Try.f3 false true false false) := by
  refine returnsInHanded_of_change_sized (C := Try.checked) own started (by kernel_rfl) Try.func3
    (ChangeSpec.witness6 (enc := enc) (C := Try.checked) false ⟨#[], #[.slice none 0 0, .int .i64 0], []⟩ 8 (by kernel_rfl) (by kernel_rfl) (by kernel_rfl) (by kernel_rfl)) ?_
  intro W base args ds gs before hval0 hW hcnd hsz0 _
  have hval : ∀ (j : Nat) t v, Try.f3.params[j]? = some t → args[j]? = some v → Value.okWide Try.prog W .any base t v := hval0
  have hW' := hW
  obtain ⟨p, q, hA0, hV, rfl, hfz, hnd⟩ := hW
  have hA : DataW.TrodAll enc Try.prog W 0 (fun _ => true) true Try.f3.params.toList args.toList ds p := hA0
  rw [Try.params3] at hA hval
  obtain ⟨v0, vs0, d0, ds0, p0, q0, hargs, rfl, rfl, h0, r0⟩ := trodAll_cons hA
  obtain ⟨v1, vs1, d1, ds1, p1, q1, rfl, rfl, rfl, h1, r1⟩ := trodAll_cons r0
  obtain ⟨rfl, rfl, rfl⟩ := trodAll_nil r1
  obtain rfl : args = #[v0, v1] := by cases args; simp_all
  obtain ⟨rfl, rfl⟩ := trodVars_none hV
  obtain ⟨A0, n0, c0, rfl⟩ := okWide_slice Try.underlying22 (hval 0 22 v0 rfl rfl)
  have k0 := h0
  have lt0 : ∀ x ∈ p0, x.block < W.heap.size := by obtain ⟨m, hm⟩ := k0; exact DataW.trod_lt m _ _ _ hm
  obtain ⟨l0, rfl, hr0, hc0, hm0, hw0⟩ := row22 h0
  obtain ⟨a1, rfl, rfl, rfl, w1⟩ := open_int Try.underlying3 (hval 1 3 v1 rfl rfl) h1
  clear hA0 hval0 hsz0
  obtain ⟨k, hk⟩ := LFlowTells.pure l0 a1 hm0 hw0 w1
  refine (PA.lockgatelaw06_FlowTells.calls k _ _ l0 a1 true W hr0 hc0 (.mk rfl) hk).mono fun e W' ⟨he, bel0⟩ => ?_
  have bel : Below W.heap.size W W' := bel0
  subst he
  exact ⟨_, rfl, _, _, _, [], _, [], hW', trodAll_mk1 (shut_bool Try.underlying4 _), (trodAll_cons_mk (Below.trod laidOut (by kernel_rfl) (of_decide_eq_true (by kernel_rfl)) k0 bel lt0) (trodAll_cons_mk (shut_int Try.underlying3 w1) trodAll_mk0)), rfl, bel.frame _, fun h => by cases h⟩
theorem over : Rows.flowTellsRow.holds Try.pinned (OpenSpec.ofChange Rows.flowTellsSpec) :=
  OpenClaim.holds_of_wide 3 Try.f3 rfl rfl rfl rfl rfl rfl rfl ⟨rfl, rfl, rfl, rfl, rfl⟩ rfl rfl rfl rfl rfl (by kernel_rfl) Try.func3 (by kernel_rfl)
    (of_decide_eq_true (by kernel_rfl)) (by unfold Func.isWrapper; first | (rw [if_pos (by decide +kernel)]; kernel_rfl) | (rw [if_neg (by decide +kernel)]; exact ⟨rfl, rfl⟩))
    (fun os started H enc _ => lifted os started H enc)
theorem proved : Rows.FlowTellsSaid := over
#print axioms proved
end Go.Proofs.Ytkcneaaoghgllaa.rowFlowTells
namespace Go.Proofs.Ytkcneaaoghgllaa
/-- The row, under a short name, for the claim. -/
theorem flowTells_holds : Rows.FlowTellsSaid := rowFlowTells.proved
end Go.Proofs.Ytkcneaaoghgllaa
