/-
  No cell of these rows narrows 'for every input' (looked for: loops, veiled, ifaces, maps, wideKeys, modest, calm, conditions, laid).
  DERIVED. THE GIVEN ROWS OF THIS SEAT. 5 by the template 'for every input the law returns true; each argument reads behind the call as it read before'; 0 by the template 'total and deterministic' (their statements: YtkcneaaoghgllaaTotals.lean).
  GIVEN WITH THE SEED: the statements are not yours to turn. If you find one false, say at which input.
  Laid BY PROGRAM, IN A SANDBOX (cutbox-rows.mjs): the forced cells as the released guide's own fill.sh prints them over the translation 1aac5b415eee9ba1… (all of the seat's roots in one cut). By AI agents, Wed Nov 11 2026. No macro, syntax, notation, axiom, sorry.
-/
import Derived.Test.YtkcneaaoghgllaaChecked
import GoSem.Claim
import GoSem.ClaimJoined
import GoSem.ClaimMapViews
import Derived.JoinedTies
import Derived.KernelRfl
namespace Go.Proofs.Ytkcneaaoghgllaa
/- THE CELL 'sum', in the pinned program and in every row, IS THE sha256 OF THE DUMP (.gsa) THAT YtkcneaaoghgllaaProg.lean LOADS. Nothing in Lean hashes anything: it is a label: what it is worth is what the hold of that sum in a sandbox is worth. -/
noncomputable def Try.pinned : Pinned := { name := "ytkcneaaoghgllaa", sum := "1aac5b415eee9ba18c0c948cf6e230cc166c8919d9c1e90b65cb5c7e686a6659", checked := Try.checked }
namespace Rows
def none {H : Type} : Left H := { results := [], args := [] }

/-- 'lockgatelaw06.FlowTells': WHATEVER THE INPUT: true; the input reads as it did. -/
def flowTellsSpec : ChangeSpec := { name := "flowTells", fn := fun _ => fun
  | [d1, d2] => { results := [.lit (.bool true)], args := [d1, d2] }
  | _ => none }
def flowTellsRow : OpenClaim := { program := "ytkcneaaoghgllaa", sum := "1aac5b415eee9ba18c0c948cf6e230cc166c8919d9c1e90b65cb5c7e686a6659", func := "lockgate/lockgatelaw06.FlowTells", spec := "flowTells", apart := false }
def FlowTellsSaid : Prop := flowTellsRow.holds Try.pinned (OpenSpec.ofChange flowTellsSpec)

/-- ITS FALSE NEIGHBOUR: 'it returns false'. Refute it at one input. -/
def flowTellsWrong : ChangeSpec := { name := "flowTells", fn := fun _ => fun
  | [d1, d2] => { results := [.lit (.bool false)], args := [d1, d2] }
  | _ => none }
def FlowTellsWrongFalsely : Prop := flowTellsRow.holds Try.pinned (OpenSpec.ofChange flowTellsWrong)

/-- 'lockgatelaw06.FlowLands': WHATEVER THE INPUT: true; the input reads as it did. -/
def flowLandsSpec : ChangeSpec := { name := "flowLands", fn := fun _ => fun
  | [d] => { results := [.lit (.bool true)], args := [d] }
  | _ => none }
def flowLandsRow : OpenClaim := { program := "ytkcneaaoghgllaa", sum := "1aac5b415eee9ba18c0c948cf6e230cc166c8919d9c1e90b65cb5c7e686a6659", func := "lockgate/lockgatelaw06.FlowLands", spec := "flowLands", apart := false }
def FlowLandsSaid : Prop := flowLandsRow.holds Try.pinned (OpenSpec.ofChange flowLandsSpec)

/-- ITS FALSE NEIGHBOUR: 'it returns false'. Refute it at one input. -/
def flowLandsWrong : ChangeSpec := { name := "flowLands", fn := fun _ => fun
  | [d] => { results := [.lit (.bool false)], args := [d] }
  | _ => none }
def FlowLandsWrongFalsely : Prop := flowLandsRow.holds Try.pinned (OpenSpec.ofChange flowLandsWrong)

/-- 'lockgatelaw06.FlowInside': WHATEVER THE INPUT: true; the input reads as it did. -/
def flowInsideSpec : ChangeSpec := { name := "flowInside", fn := fun _ => fun
  | [d] => { results := [.lit (.bool true)], args := [d] }
  | _ => none }
def flowInsideRow : OpenClaim := { program := "ytkcneaaoghgllaa", sum := "1aac5b415eee9ba18c0c948cf6e230cc166c8919d9c1e90b65cb5c7e686a6659", func := "lockgate/lockgatelaw06.FlowInside", spec := "flowInside", apart := false }
def FlowInsideSaid : Prop := flowInsideRow.holds Try.pinned (OpenSpec.ofChange flowInsideSpec)

/-- ITS FALSE NEIGHBOUR: 'it returns false'. Refute it at one input. -/
def flowInsideWrong : ChangeSpec := { name := "flowInside", fn := fun _ => fun
  | [d] => { results := [.lit (.bool false)], args := [d] }
  | _ => none }
def FlowInsideWrongFalsely : Prop := flowInsideRow.holds Try.pinned (OpenSpec.ofChange flowInsideWrong)

/-- 'lockgatelaw06.FlowMoved': WHATEVER THE INPUT: true; the input reads as it did. -/
def flowMovedSpec : ChangeSpec := { name := "flowMoved", fn := fun _ => fun
  | [d1, d2] => { results := [.lit (.bool true)], args := [d1, d2] }
  | _ => none }
def flowMovedRow : OpenClaim := { program := "ytkcneaaoghgllaa", sum := "1aac5b415eee9ba18c0c948cf6e230cc166c8919d9c1e90b65cb5c7e686a6659", func := "lockgate/lockgatelaw06.FlowMoved", spec := "flowMoved", apart := false }
def FlowMovedSaid : Prop := flowMovedRow.holds Try.pinned (OpenSpec.ofChange flowMovedSpec)

/-- ITS FALSE NEIGHBOUR: 'it returns false'. Refute it at one input. -/
def flowMovedWrong : ChangeSpec := { name := "flowMoved", fn := fun _ => fun
  | [d1, d2] => { results := [.lit (.bool false)], args := [d1, d2] }
  | _ => none }
def FlowMovedWrongFalsely : Prop := flowMovedRow.holds Try.pinned (OpenSpec.ofChange flowMovedWrong)

/-- 'lockgatelaw06.FlowKnown': WHATEVER THE INPUT: true; the input reads as it did. -/
def flowKnownSpec : ChangeSpec := { name := "flowKnown", fn := fun _ => fun
  | [] => { results := [.lit (.bool true)], args := [] }
  | _ => none }
def flowKnownRow : OpenClaim := { program := "ytkcneaaoghgllaa", sum := "1aac5b415eee9ba18c0c948cf6e230cc166c8919d9c1e90b65cb5c7e686a6659", func := "lockgate/lockgatelaw06.FlowKnown", spec := "flowKnown", apart := false }
def FlowKnownSaid : Prop := flowKnownRow.holds Try.pinned (OpenSpec.ofChange flowKnownSpec)

/-- ITS FALSE NEIGHBOUR: 'it returns false'. Refute it at one input. -/
def flowKnownWrong : ChangeSpec := { name := "flowKnown", fn := fun _ => fun
  | [] => { results := [.lit (.bool false)], args := [] }
  | _ => none }
def FlowKnownWrongFalsely : Prop := flowKnownRow.holds Try.pinned (OpenSpec.ofChange flowKnownWrong)

/- THE SECOND FORM. 'bulk': how many values and letters a reading holds, each counted each time it is reached (what is shared counts as often as it is met; a slice's spare places count too). A statement '..UptoSaid' is the law's where the arguments, and the package variables that the reading takes, are together of bulk at most 1048576: NARROWER than '..Said'. Prove '..Said' where nothing that the law and all that it calls make is longer than what came in: it says more and counts as full. Else prove '..UptoSaid'. A law counts once. -/
mutual
def uptoBulk {H : Type} : DataW H → Nat
  | .lit (.string bytes) => bytes.length + 1
  | .lit _ => 1
  | .nil => 1
  | .ptr d => uptoBulk d + 1
  | .slice elems spare => uptoBulkAll elems + uptoBulkAll spare + 1
  | .agg parts => uptoBulkAll parts + 1
  | .iface _ d => uptoBulk d + 1
  | .map entries => uptoBulkEntries entries + 1
  | .held _ => 1
def uptoBulkAll {H : Type} : List (DataW H) → Nat
  | [] => 0
  | d :: r => uptoBulk d + uptoBulkAll r
def uptoBulkEntries {H : Type} : List (Lit × DataW H) → Nat
  | [] => 0
  | x :: r => uptoBulkEntry x + uptoBulkEntries r
def uptoBulkEntry {H : Type} : Lit × DataW H → Nat
  | (.string bytes, d) => bytes.length + uptoBulk d + 1
  | (_, d) => uptoBulk d + 1
 end
def uptoSmall : (H : Type) → List (DataW H) → Bool := fun _ ds => decide (uptoBulkAll ds ≤ 1048576)
def OpenSpec.upto (s : _root_.Go.ChangeSpec) : _root_.Go.OpenSpec := { _root_.Go.OpenSpec.ofChange s with cond := some uptoSmall }

/-- 'lockgatelaw06.FlowTells', WHERE WHAT IT READS IS OF BULK AT MOST 1048576: true; the input reads as it did. -/
def flowTellsUptoRow : OpenClaim := { program := "ytkcneaaoghgllaa", sum := "1aac5b415eee9ba18c0c948cf6e230cc166c8919d9c1e90b65cb5c7e686a6659", func := "lockgate/lockgatelaw06.FlowTells", spec := "flowTells", apart := false, narrowed := true }
def FlowTellsUptoSaid : Prop := flowTellsUptoRow.holds Try.pinned (OpenSpec.upto flowTellsSpec)

/-- 'lockgatelaw06.FlowLands', WHERE WHAT IT READS IS OF BULK AT MOST 1048576: true; the input reads as it did. -/
def flowLandsUptoRow : OpenClaim := { program := "ytkcneaaoghgllaa", sum := "1aac5b415eee9ba18c0c948cf6e230cc166c8919d9c1e90b65cb5c7e686a6659", func := "lockgate/lockgatelaw06.FlowLands", spec := "flowLands", apart := false, narrowed := true }
def FlowLandsUptoSaid : Prop := flowLandsUptoRow.holds Try.pinned (OpenSpec.upto flowLandsSpec)

/-- 'lockgatelaw06.FlowInside', WHERE WHAT IT READS IS OF BULK AT MOST 1048576: true; the input reads as it did. -/
def flowInsideUptoRow : OpenClaim := { program := "ytkcneaaoghgllaa", sum := "1aac5b415eee9ba18c0c948cf6e230cc166c8919d9c1e90b65cb5c7e686a6659", func := "lockgate/lockgatelaw06.FlowInside", spec := "flowInside", apart := false, narrowed := true }
def FlowInsideUptoSaid : Prop := flowInsideUptoRow.holds Try.pinned (OpenSpec.upto flowInsideSpec)

/-- 'lockgatelaw06.FlowMoved', WHERE WHAT IT READS IS OF BULK AT MOST 1048576: true; the input reads as it did. -/
def flowMovedUptoRow : OpenClaim := { program := "ytkcneaaoghgllaa", sum := "1aac5b415eee9ba18c0c948cf6e230cc166c8919d9c1e90b65cb5c7e686a6659", func := "lockgate/lockgatelaw06.FlowMoved", spec := "flowMoved", apart := false, narrowed := true }
def FlowMovedUptoSaid : Prop := flowMovedUptoRow.holds Try.pinned (OpenSpec.upto flowMovedSpec)

/-- 'lockgatelaw06.FlowKnown', WHERE WHAT IT READS IS OF BULK AT MOST 1048576: true; the input reads as it did. -/
def flowKnownUptoRow : OpenClaim := { program := "ytkcneaaoghgllaa", sum := "1aac5b415eee9ba18c0c948cf6e230cc166c8919d9c1e90b65cb5c7e686a6659", func := "lockgate/lockgatelaw06.FlowKnown", spec := "flowKnown", apart := false, narrowed := true }
def FlowKnownUptoSaid : Prop := flowKnownUptoRow.holds Try.pinned (OpenSpec.upto flowKnownSpec)

end Rows
end Go.Proofs.Ytkcneaaoghgllaa
