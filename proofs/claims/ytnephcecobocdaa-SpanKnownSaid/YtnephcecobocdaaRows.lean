/-
  No cell of these rows narrows 'for every input' (looked for: loops, veiled, ifaces, maps, wideKeys, modest, calm, conditions, laid).
  DERIVED. THE GIVEN ROWS OF THIS SEAT. 9 by the template 'for every input the law returns true; each argument reads behind the call as it read before'; 0 by the template 'total and deterministic' (their statements: YtnephcecobocdaaTotals.lean).
  GIVEN WITH THE SEED: the statements are not yours to turn. If you find one false, say at which input.
  Laid BY PROGRAM, IN A SANDBOX (cutbox-rows.mjs): the forced cells as the released guide's own fill.sh prints them over the translation 17854e91c8a7f9c4… (all of the seat's roots in one cut). By AI agents, Wed Nov 11 2026. No macro, syntax, notation, axiom, sorry.
-/
import Derived.Test.YtnephcecobocdaaChecked
import GoSem.Claim
import GoSem.ClaimJoined
import GoSem.ClaimMapViews
import Derived.JoinedTies
import Derived.KernelRfl
namespace Go.Proofs.Ytnephcecobocdaa
/- THE CELL 'sum', in the pinned program and in every row, IS THE sha256 OF THE DUMP (.gsa) THAT YtnephcecobocdaaProg.lean LOADS. Nothing in Lean hashes anything: it is a label: what it is worth is what the hold of that sum in a sandbox is worth. -/
noncomputable def Try.pinned : Pinned := { name := "ytnephcecobocdaa", sum := "17854e91c8a7f9c48885cb7e2bdc2319882dbc587d94f0e7e4e91c5800ffac6a", checked := Try.checked }
namespace Rows
def none {H : Type} : Left H := { results := [], args := [] }

/-- 'lockgatelaw04.SpanBits': WHATEVER THE INPUT: true; the input reads as it did. -/
def spanBitsSpec : ChangeSpec := { name := "spanBits", fn := fun _ => fun
  | [d] => { results := [.lit (.bool true)], args := [d] }
  | _ => none }
def spanBitsRow : OpenClaim := { program := "ytnephcecobocdaa", sum := "17854e91c8a7f9c48885cb7e2bdc2319882dbc587d94f0e7e4e91c5800ffac6a", func := "lockgate/lockgatelaw04.SpanBits", spec := "spanBits", apart := false }
def SpanBitsSaid : Prop := spanBitsRow.holds Try.pinned (OpenSpec.ofChange spanBitsSpec)

/-- ITS FALSE NEIGHBOUR: 'it returns false'. Refute it at one input. -/
def spanBitsWrong : ChangeSpec := { name := "spanBits", fn := fun _ => fun
  | [d] => { results := [.lit (.bool false)], args := [d] }
  | _ => none }
def SpanBitsWrongFalsely : Prop := spanBitsRow.holds Try.pinned (OpenSpec.ofChange spanBitsWrong)

/-- 'lockgatelaw04.SpanTaken': WHATEVER THE INPUT: true; the input reads as it did. -/
def spanTakenSpec : ChangeSpec := { name := "spanTaken", fn := fun _ => fun
  | [d1, d2] => { results := [.lit (.bool true)], args := [d1, d2] }
  | _ => none }
def spanTakenRow : OpenClaim := { program := "ytnephcecobocdaa", sum := "17854e91c8a7f9c48885cb7e2bdc2319882dbc587d94f0e7e4e91c5800ffac6a", func := "lockgate/lockgatelaw04.SpanTaken", spec := "spanTaken", apart := false }
def SpanTakenSaid : Prop := spanTakenRow.holds Try.pinned (OpenSpec.ofChange spanTakenSpec)

/-- ITS FALSE NEIGHBOUR: 'it returns false'. Refute it at one input. -/
def spanTakenWrong : ChangeSpec := { name := "spanTaken", fn := fun _ => fun
  | [d1, d2] => { results := [.lit (.bool false)], args := [d1, d2] }
  | _ => none }
def SpanTakenWrongFalsely : Prop := spanTakenRow.holds Try.pinned (OpenSpec.ofChange spanTakenWrong)

/-- 'lockgatelaw04.SpanSigns': WHATEVER THE INPUT: true; the input reads as it did. -/
def spanSignsSpec : ChangeSpec := { name := "spanSigns", fn := fun _ => fun
  | [d1, d2, d3, d4, d5] => { results := [.lit (.bool true)], args := [d1, d2, d3, d4, d5] }
  | _ => none }
def spanSignsRow : OpenClaim := { program := "ytnephcecobocdaa", sum := "17854e91c8a7f9c48885cb7e2bdc2319882dbc587d94f0e7e4e91c5800ffac6a", func := "lockgate/lockgatelaw04.SpanSigns", spec := "spanSigns", apart := false }
def SpanSignsSaid : Prop := spanSignsRow.holds Try.pinned (OpenSpec.ofChange spanSignsSpec)

/-- ITS FALSE NEIGHBOUR: 'it returns false'. Refute it at one input. -/
def spanSignsWrong : ChangeSpec := { name := "spanSigns", fn := fun _ => fun
  | [d1, d2, d3, d4, d5] => { results := [.lit (.bool false)], args := [d1, d2, d3, d4, d5] }
  | _ => none }
def SpanSignsWrongFalsely : Prop := spanSignsRow.holds Try.pinned (OpenSpec.ofChange spanSignsWrong)

/-- 'lockgatelaw04.SpanLattice': WHATEVER THE INPUT: true; the input reads as it did. -/
def spanLatticeSpec : ChangeSpec := { name := "spanLattice", fn := fun _ => fun
  | [d1, d2, d3, d4] => { results := [.lit (.bool true)], args := [d1, d2, d3, d4] }
  | _ => none }
def spanLatticeRow : OpenClaim := { program := "ytnephcecobocdaa", sum := "17854e91c8a7f9c48885cb7e2bdc2319882dbc587d94f0e7e4e91c5800ffac6a", func := "lockgate/lockgatelaw04.SpanLattice", spec := "spanLattice", apart := false }
def SpanLatticeSaid : Prop := spanLatticeRow.holds Try.pinned (OpenSpec.ofChange spanLatticeSpec)

/-- ITS FALSE NEIGHBOUR: 'it returns false'. Refute it at one input. -/
def spanLatticeWrong : ChangeSpec := { name := "spanLattice", fn := fun _ => fun
  | [d1, d2, d3, d4] => { results := [.lit (.bool false)], args := [d1, d2, d3, d4] }
  | _ => none }
def SpanLatticeWrongFalsely : Prop := spanLatticeRow.holds Try.pinned (OpenSpec.ofChange spanLatticeWrong)

/-- 'lockgatelaw04.SpanSigned': WHATEVER THE INPUT: true; the input reads as it did. -/
def spanSignedSpec : ChangeSpec := { name := "spanSigned", fn := fun _ => fun
  | [d1, d2, d3, d4] => { results := [.lit (.bool true)], args := [d1, d2, d3, d4] }
  | _ => none }
def spanSignedRow : OpenClaim := { program := "ytnephcecobocdaa", sum := "17854e91c8a7f9c48885cb7e2bdc2319882dbc587d94f0e7e4e91c5800ffac6a", func := "lockgate/lockgatelaw04.SpanSigned", spec := "spanSigned", apart := false }
def SpanSignedSaid : Prop := spanSignedRow.holds Try.pinned (OpenSpec.ofChange spanSignedSpec)

/-- ITS FALSE NEIGHBOUR: 'it returns false'. Refute it at one input. -/
def spanSignedWrong : ChangeSpec := { name := "spanSigned", fn := fun _ => fun
  | [d1, d2, d3, d4] => { results := [.lit (.bool false)], args := [d1, d2, d3, d4] }
  | _ => none }
def SpanSignedWrongFalsely : Prop := spanSignedRow.holds Try.pinned (OpenSpec.ofChange spanSignedWrong)

/-- 'lockgatelaw04.SpanExact': WHATEVER THE INPUT: true; the input reads as it did. -/
def spanExactSpec : ChangeSpec := { name := "spanExact", fn := fun _ => fun
  | [d1, d2, d3] => { results := [.lit (.bool true)], args := [d1, d2, d3] }
  | _ => none }
def spanExactRow : OpenClaim := { program := "ytnephcecobocdaa", sum := "17854e91c8a7f9c48885cb7e2bdc2319882dbc587d94f0e7e4e91c5800ffac6a", func := "lockgate/lockgatelaw04.SpanExact", spec := "spanExact", apart := false }
def SpanExactSaid : Prop := spanExactRow.holds Try.pinned (OpenSpec.ofChange spanExactSpec)

/-- ITS FALSE NEIGHBOUR: 'it returns false'. Refute it at one input. -/
def spanExactWrong : ChangeSpec := { name := "spanExact", fn := fun _ => fun
  | [d1, d2, d3] => { results := [.lit (.bool false)], args := [d1, d2, d3] }
  | _ => none }
def SpanExactWrongFalsely : Prop := spanExactRow.holds Try.pinned (OpenSpec.ofChange spanExactWrong)

/-- 'lockgatelaw04.SpanSound': WHATEVER THE INPUT: true; the input reads as it did. -/
def spanSoundSpec : ChangeSpec := { name := "spanSound", fn := fun _ => fun
  | [d1, d2, d3, d4, d5] => { results := [.lit (.bool true)], args := [d1, d2, d3, d4, d5] }
  | _ => none }
def spanSoundRow : OpenClaim := { program := "ytnephcecobocdaa", sum := "17854e91c8a7f9c48885cb7e2bdc2319882dbc587d94f0e7e4e91c5800ffac6a", func := "lockgate/lockgatelaw04.SpanSound", spec := "spanSound", apart := false }
def SpanSoundSaid : Prop := spanSoundRow.holds Try.pinned (OpenSpec.ofChange spanSoundSpec)

/-- ITS FALSE NEIGHBOUR: 'it returns false'. Refute it at one input. -/
def spanSoundWrong : ChangeSpec := { name := "spanSound", fn := fun _ => fun
  | [d1, d2, d3, d4, d5] => { results := [.lit (.bool false)], args := [d1, d2, d3, d4, d5] }
  | _ => none }
def SpanSoundWrongFalsely : Prop := spanSoundRow.holds Try.pinned (OpenSpec.ofChange spanSoundWrong)

/-- 'lockgatelaw04.SpanUnsigned': WHATEVER THE INPUT: true; the input reads as it did. -/
def spanUnsignedSpec : ChangeSpec := { name := "spanUnsigned", fn := fun _ => fun
  | [d1, d2, d3, d4] => { results := [.lit (.bool true)], args := [d1, d2, d3, d4] }
  | _ => none }
def spanUnsignedRow : OpenClaim := { program := "ytnephcecobocdaa", sum := "17854e91c8a7f9c48885cb7e2bdc2319882dbc587d94f0e7e4e91c5800ffac6a", func := "lockgate/lockgatelaw04.SpanUnsigned", spec := "spanUnsigned", apart := false }
def SpanUnsignedSaid : Prop := spanUnsignedRow.holds Try.pinned (OpenSpec.ofChange spanUnsignedSpec)

/-- ITS FALSE NEIGHBOUR: 'it returns false'. Refute it at one input. -/
def spanUnsignedWrong : ChangeSpec := { name := "spanUnsigned", fn := fun _ => fun
  | [d1, d2, d3, d4] => { results := [.lit (.bool false)], args := [d1, d2, d3, d4] }
  | _ => none }
def SpanUnsignedWrongFalsely : Prop := spanUnsignedRow.holds Try.pinned (OpenSpec.ofChange spanUnsignedWrong)

/-- 'lockgatelaw04.SpanKnown': WHATEVER THE INPUT: true; the input reads as it did. -/
def spanKnownSpec : ChangeSpec := { name := "spanKnown", fn := fun _ => fun
  | [] => { results := [.lit (.bool true)], args := [] }
  | _ => none }
def spanKnownRow : OpenClaim := { program := "ytnephcecobocdaa", sum := "17854e91c8a7f9c48885cb7e2bdc2319882dbc587d94f0e7e4e91c5800ffac6a", func := "lockgate/lockgatelaw04.SpanKnown", spec := "spanKnown", apart := false }
def SpanKnownSaid : Prop := spanKnownRow.holds Try.pinned (OpenSpec.ofChange spanKnownSpec)

/-- ITS FALSE NEIGHBOUR: 'it returns false'. Refute it at one input. -/
def spanKnownWrong : ChangeSpec := { name := "spanKnown", fn := fun _ => fun
  | [] => { results := [.lit (.bool false)], args := [] }
  | _ => none }
def SpanKnownWrongFalsely : Prop := spanKnownRow.holds Try.pinned (OpenSpec.ofChange spanKnownWrong)

/- THE SECOND FORM. 'bulk': how many values and letters a reading holds, each counted each time it is reached (what is shared counts as often as it is met; a slice's spare places count too). A statement '..UptoSaid' is the law's where the arguments, and the package variables that the reading takes, are together of bulk at most 1048576: NARROWER than '..Said'. Prove '..Said' where nothing that the law and all that it calls make is longer than what came in: it says more and counts as full. Else prove '..UptoSaid'. A law counts once. -/
mutual
def uptoBulk {H : Type} : DataW H → Nat
  | .lit (.string bytes) => bytes.length + 1
  | .lit _ => 1
  | .nil => 1
  | .ptr d => uptoBulk d + 1
  | .slice elems spare => uptoBulkAll elems + uptoBulkAll spare + 1
  | .agg parts => uptoBulkAll parts + 1
  | .iface _ d => uptoBulk d + 1
  | .map entries => uptoBulkEntries entries + 1
  | .held _ => 1
def uptoBulkAll {H : Type} : List (DataW H) → Nat
  | [] => 0
  | d :: r => uptoBulk d + uptoBulkAll r
def uptoBulkEntries {H : Type} : List (Lit × DataW H) → Nat
  | [] => 0
  | x :: r => uptoBulkEntry x + uptoBulkEntries r
def uptoBulkEntry {H : Type} : Lit × DataW H → Nat
  | (.string bytes, d) => bytes.length + uptoBulk d + 1
  | (_, d) => uptoBulk d + 1
 end
def uptoSmall : (H : Type) → List (DataW H) → Bool := fun _ ds => decide (uptoBulkAll ds ≤ 1048576)
def OpenSpec.upto (s : _root_.Go.ChangeSpec) : _root_.Go.OpenSpec := { _root_.Go.OpenSpec.ofChange s with cond := some uptoSmall }

/-- 'lockgatelaw04.SpanBits', WHERE WHAT IT READS IS OF BULK AT MOST 1048576: true; the input reads as it did. -/
def spanBitsUptoRow : OpenClaim := { program := "ytnephcecobocdaa", sum := "17854e91c8a7f9c48885cb7e2bdc2319882dbc587d94f0e7e4e91c5800ffac6a", func := "lockgate/lockgatelaw04.SpanBits", spec := "spanBits", apart := false, narrowed := true }
def SpanBitsUptoSaid : Prop := spanBitsUptoRow.holds Try.pinned (OpenSpec.upto spanBitsSpec)

/-- 'lockgatelaw04.SpanTaken', WHERE WHAT IT READS IS OF BULK AT MOST 1048576: true; the input reads as it did. -/
def spanTakenUptoRow : OpenClaim := { program := "ytnephcecobocdaa", sum := "17854e91c8a7f9c48885cb7e2bdc2319882dbc587d94f0e7e4e91c5800ffac6a", func := "lockgate/lockgatelaw04.SpanTaken", spec := "spanTaken", apart := false, narrowed := true }
def SpanTakenUptoSaid : Prop := spanTakenUptoRow.holds Try.pinned (OpenSpec.upto spanTakenSpec)

/-- 'lockgatelaw04.SpanSigns', WHERE WHAT IT READS IS OF BULK AT MOST 1048576: true; the input reads as it did. -/
def spanSignsUptoRow : OpenClaim := { program := "ytnephcecobocdaa", sum := "17854e91c8a7f9c48885cb7e2bdc2319882dbc587d94f0e7e4e91c5800ffac6a", func := "lockgate/lockgatelaw04.SpanSigns", spec := "spanSigns", apart := false, narrowed := true }
def SpanSignsUptoSaid : Prop := spanSignsUptoRow.holds Try.pinned (OpenSpec.upto spanSignsSpec)

/-- 'lockgatelaw04.SpanLattice', WHERE WHAT IT READS IS OF BULK AT MOST 1048576: true; the input reads as it did. -/
def spanLatticeUptoRow : OpenClaim := { program := "ytnephcecobocdaa", sum := "17854e91c8a7f9c48885cb7e2bdc2319882dbc587d94f0e7e4e91c5800ffac6a", func := "lockgate/lockgatelaw04.SpanLattice", spec := "spanLattice", apart := false, narrowed := true }
def SpanLatticeUptoSaid : Prop := spanLatticeUptoRow.holds Try.pinned (OpenSpec.upto spanLatticeSpec)

/-- 'lockgatelaw04.SpanSigned', WHERE WHAT IT READS IS OF BULK AT MOST 1048576: true; the input reads as it did. -/
def spanSignedUptoRow : OpenClaim := { program := "ytnephcecobocdaa", sum := "17854e91c8a7f9c48885cb7e2bdc2319882dbc587d94f0e7e4e91c5800ffac6a", func := "lockgate/lockgatelaw04.SpanSigned", spec := "spanSigned", apart := false, narrowed := true }
def SpanSignedUptoSaid : Prop := spanSignedUptoRow.holds Try.pinned (OpenSpec.upto spanSignedSpec)

/-- 'lockgatelaw04.SpanExact', WHERE WHAT IT READS IS OF BULK AT MOST 1048576: true; the input reads as it did. -/
def spanExactUptoRow : OpenClaim := { program := "ytnephcecobocdaa", sum := "17854e91c8a7f9c48885cb7e2bdc2319882dbc587d94f0e7e4e91c5800ffac6a", func := "lockgate/lockgatelaw04.SpanExact", spec := "spanExact", apart := false, narrowed := true }
def SpanExactUptoSaid : Prop := spanExactUptoRow.holds Try.pinned (OpenSpec.upto spanExactSpec)

/-- 'lockgatelaw04.SpanSound', WHERE WHAT IT READS IS OF BULK AT MOST 1048576: true; the input reads as it did. -/
def spanSoundUptoRow : OpenClaim := { program := "ytnephcecobocdaa", sum := "17854e91c8a7f9c48885cb7e2bdc2319882dbc587d94f0e7e4e91c5800ffac6a", func := "lockgate/lockgatelaw04.SpanSound", spec := "spanSound", apart := false, narrowed := true }
def SpanSoundUptoSaid : Prop := spanSoundUptoRow.holds Try.pinned (OpenSpec.upto spanSoundSpec)

/-- 'lockgatelaw04.SpanUnsigned', WHERE WHAT IT READS IS OF BULK AT MOST 1048576: true; the input reads as it did. -/
def spanUnsignedUptoRow : OpenClaim := { program := "ytnephcecobocdaa", sum := "17854e91c8a7f9c48885cb7e2bdc2319882dbc587d94f0e7e4e91c5800ffac6a", func := "lockgate/lockgatelaw04.SpanUnsigned", spec := "spanUnsigned", apart := false, narrowed := true }
def SpanUnsignedUptoSaid : Prop := spanUnsignedUptoRow.holds Try.pinned (OpenSpec.upto spanUnsignedSpec)

/-- 'lockgatelaw04.SpanKnown', WHERE WHAT IT READS IS OF BULK AT MOST 1048576: true; the input reads as it did. -/
def spanKnownUptoRow : OpenClaim := { program := "ytnephcecobocdaa", sum := "17854e91c8a7f9c48885cb7e2bdc2319882dbc587d94f0e7e4e91c5800ffac6a", func := "lockgate/lockgatelaw04.SpanKnown", spec := "spanKnown", apart := false, narrowed := true }
def SpanKnownUptoSaid : Prop := spanKnownUptoRow.holds Try.pinned (OpenSpec.upto spanKnownSpec)

end Rows
end Go.Proofs.Ytnephcecobocdaa
