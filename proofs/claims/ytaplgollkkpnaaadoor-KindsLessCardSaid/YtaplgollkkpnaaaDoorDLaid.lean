/- What the row's condition says of the table, told as the executor asks it. -/
import Derived.Test.YtaplgollkkpnaaaDoorRows
import Derived.ProofKit
import Derived.LaidMore
import Derived.OpenShut
import Derived.Stop.Joined
import Derived.Test.YtaplgollkkpnaaaDoorXcGd
namespace Go.Proofs.YtaplgollkkpnaaaDoor.DLaid
open Go.ChangeShapes Go.WideShapes Go.ChangeAt Go.WideMaps Go.WideElems Go.RowKit
open Go.Proofs.YtaplgollkkpnaaaDoor.Xc (I gl row4)
set_option linter.unusedVariables false
theorem gAlike : Tryd.prog.globalNamed "lockgate/kinds.alike" = some 0 := by kernel_rfl
theorem tAlike : (Tryd.prog.globals[0]?).map (·.type) = some 50 := by kernel_rfl
theorem c4 : Tryd.prog.cellsOf 4 = 1 := by kernel_rfl
theorem c49 : Tryd.prog.cellsOf 49 = 4 := by kernel_rfl
theorem c50 : Tryd.prog.cellsOf 50 = 36 := by kernel_rfl
noncomputable abbrev laidL : List (String × DataW Unit) := [("lockgate/kinds.alike", Rows.laid_lockgate_kinds_alike)]
section
variable {H : Type} {enc : TypeId × Value → H} {w : World} {base : Nat} {spare : Nat → Bool} {held : Bool}
theorem one {n : Nat} {c : Value} {x : DataW H × List MemPlace} {b : Bool} (h : DataW.trod enc Tryd.prog w base spare held n 4 [c] = some x) (hx : x.1 = .lit (.bool b)) : c = .bool b := by
  obtain ⟨b', e, rfl⟩ := DataW.trod_bool Tryd.underlying4 h
  simp only [List.cons.injEq, and_true] at e
  simp only [DataW.lit.injEq, Lit.bool.injEq] at hx
  rw [e, hx]
set_option maxRecDepth 100000 in
theorem four {n : Nat} {cs : List Value} {x : DataW H × List MemPlace} {a b c d : Bool} (h : DataW.trod enc Tryd.prog w base spare held n 49 cs = some x) (hx : x.1 = .agg [.lit (.bool a), .lit (.bool b), .lit (.bool c), .lit (.bool d)]) : cs = row4 a b c d := by
  obtain ⟨xs, m, _, rfl, hl, hn, hf⟩ := DataW.trod_struct Tryd.underlying49 h
  rw [c49] at hl
  match cs, hl, xs, hn with
  | [c0, c1, c2, c3], _, [x0, x1, x2, x3], _ =>
    have h0 : DataW.trod enc Tryd.prog w base spare held m 4 (([c0, c1, c2, c3].drop 0).take (Tryd.prog.cellsOf 4)) = some x0 := hf 0 _ rfl
    rw [c4] at h0
    have h1 : DataW.trod enc Tryd.prog w base spare held m 4 (([c0, c1, c2, c3].drop 1).take (Tryd.prog.cellsOf 4)) = some x1 := hf 1 _ rfl
    rw [c4] at h1
    have h2 : DataW.trod enc Tryd.prog w base spare held m 4 (([c0, c1, c2, c3].drop 2).take (Tryd.prog.cellsOf 4)) = some x2 := hf 2 _ rfl
    rw [c4] at h2
    have h3 : DataW.trod enc Tryd.prog w base spare held m 4 (([c0, c1, c2, c3].drop 3).take (Tryd.prog.cellsOf 4)) = some x3 := hf 3 _ rfl
    rw [c4] at h3
    have hx : DataW.agg [x0.1, x1.1, x2.1, x3.1] = .agg [.lit (.bool a), .lit (.bool b), .lit (.bool c), .lit (.bool d)] := hx
    simp only [DataW.agg.injEq, List.cons.injEq, and_true] at hx
    obtain ⟨e0, e1, e2, e3⟩ := hx
    rw [one (show DataW.trod enc Tryd.prog w base spare held m 4 [c0] = some x0 from h0) e0, one (show DataW.trod enc Tryd.prog w base spare held m 4 [c1] = some x1 from h1) e1, one (show DataW.trod enc Tryd.prog w base spare held m 4 [c2] = some x2 from h2) e2, one (show DataW.trod enc Tryd.prog w base spare held m 4 [c3] = some x3 from h3) e3]
    rfl
end
theorem split4 (l : List Value) (k : Nat) : l.drop k = (l.drop k).take 4 ++ l.drop (k + 4) := by
  rw [← List.drop_drop, List.take_append_drop]
set_option maxRecDepth 100000 in
/-- WHAT THE CONDITION GIVES: the variable's cells. -/
theorem of_laid {W : World} (h : laidMetH Tryd.prog laidL W) : I W := by
  rw [MakeChecks.laidMetH_plain _ _ _ (by kernel_rfl)] at h
  obtain ⟨ps, ⟨g0, t0, cs0, f0, p0, q0, hg0, ht0, hv0, hd0, _, _⟩, _⟩ := h
  obtain rfl := Option.some.inj (gAlike.symm.trans hg0)
  obtain rfl := Option.some.inj (tAlike.symm.trans ht0)
  obtain ⟨xs, m, _, hx, hl, hn, hf⟩ := DataW.trod_array Tryd.underlying50 hd0
  rw [c50] at hl
  rw [c49] at hf
  have hx := congrArg Prod.fst hx
  match xs, hn with
  | [x0, x1, x2, x3, x4, x5, x6, x7, x8], _ =>
    simp only [Rows.laid_lockgate_kinds_alike, List.map_cons, List.map_nil, DataW.agg.injEq, List.cons.injEq, and_true] at hx
    obtain ⟨e0, e1, e2, e3, e4, e5, e6, e7, e8⟩ := hx
    have r0 := four (hf 0 (by decide)) e0.symm
    have r1 := four (hf 1 (by decide)) e1.symm
    have r2 := four (hf 2 (by decide)) e2.symm
    have r3 := four (hf 3 (by decide)) e3.symm
    have r4 := four (hf 4 (by decide)) e4.symm
    have r5 := four (hf 5 (by decide)) e5.symm
    have r6 := four (hf 6 (by decide)) e6.symm
    have r7 := four (hf 7 (by decide)) e7.symm
    have r8 := four (hf 8 (by decide)) e8.symm
    have hz : cs0.toList.drop 36 = [] := List.drop_of_length_le (by omega)
    have all : some cs0.toList = gl 0 := by
      have a0 := split4 cs0.toList 0
      have a1 := split4 cs0.toList 4
      have a2 := split4 cs0.toList 8
      have a3 := split4 cs0.toList 12
      have a4 := split4 cs0.toList 16
      have a5 := split4 cs0.toList 20
      have a6 := split4 cs0.toList 24
      have a7 := split4 cs0.toList 28
      have a8 := split4 cs0.toList 32
      simp only [Nat.reduceAdd, Nat.reduceMul] at a0 a1 a2 a3 a4 a5 a6 a7 a8 r0 r1 r2 r3 r4 r5 r6 r7 r8
      rw [hz, r8] at a8
      rw [a8, r7] at a7
      rw [a7, r6] at a6
      rw [a6, r5] at a5
      rw [a5, r4] at a4
      rw [a4, r3] at a3
      rw [a3, r2] at a2
      rw [a2, r1] at a1
      rw [a1, r0] at a0
      rw [List.drop_zero] at a0
      rw [a0]; rfl
    intro n cs hg j v hj
    match n, hg with
    | 0, hg =>
      have := World.var?_cell hg0 hv0 j
      rw [this]
      rw [← all] at hg
      simp only [Option.some.injEq] at hg
      subst hg
      rw [← Array.getElem?_toList]; exact hj
-- The door's own heap meets the condition.
set_option maxRecDepth 100000 in
theorem door_met (os : Os) (args : Array Value) : laidMetH Tryd.prog laidL ((World.doorLaid Tryd.prog 22 os).forCall (fun _ _ => 0) ⟨#[], args, []⟩).memory :=
  laidMetH_of_parts3 (fuel := 8) (laidMet_of_run' 8 (by kernel_rfl) (by kernel_rfl)) (by kernel_rfl) (by kernel_rfl)
end Go.Proofs.YtaplgollkkpnaaaDoor.DLaid
