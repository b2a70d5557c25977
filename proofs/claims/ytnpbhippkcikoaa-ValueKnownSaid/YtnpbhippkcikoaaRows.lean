/-
  No cell of these rows narrows 'for every input' (looked for: loops, veiled, ifaces, maps, wideKeys, modest, calm, conditions, laid).
  DERIVED. THE GIVEN ROWS OF THIS SEAT. 8 by the template 'for every input the law returns true; each argument reads behind the call as it read before'; 0 by the template 'total and deterministic' (their statements: YtnpbhippkcikoaaTotals.lean).
  GIVEN WITH THE SEED: the statements are not yours to turn. If you find one false, say at which input.
  Laid BY PROGRAM, IN A SANDBOX (cutbox-rows.mjs): the forced cells as the released guide's own fill.sh prints them over the translation 4464515a035b80d6… (all of the seat's roots in one cut). By AI agents, Wed Nov 11 2026. No macro, syntax, notation, axiom, sorry.
-/
import Derived.Test.YtnpbhippkcikoaaChecked
import GoSem.Claim
import GoSem.ClaimJoined
import GoSem.ClaimMapViews
import Derived.JoinedTies
import Derived.KernelRfl
namespace Go.Proofs.Ytnpbhippkcikoaa
/- THE CELL 'sum', in the pinned program and in every row, IS THE sha256 OF THE DUMP (.gsa) THAT YtnpbhippkcikoaaProg.lean LOADS. Nothing in Lean hashes anything: it is a label: what it is worth is what the hold of that sum in a sandbox is worth. -/
noncomputable def Try.pinned : Pinned := { name := "ytnpbhippkcikoaa", sum := "4464515a035b80d61133f43a16a2e776eb7eefe6bfa7c88147b041e4fef35f91", checked := Try.checked }
namespace Rows
def none {H : Type} : Left H := { results := [], args := [] }

/-- 'lockgatelaw14.ValueMakes': WHATEVER THE INPUT: true; the input reads as it did. -/
def valueMakesSpec : ChangeSpec := { name := "valueMakes", fn := fun _ => fun
  | [d1, d2, d3, d4] => { results := [.lit (.bool true)], args := [d1, d2, d3, d4] }
  | _ => none }
def valueMakesRow : OpenClaim := { program := "ytnpbhippkcikoaa", sum := "4464515a035b80d61133f43a16a2e776eb7eefe6bfa7c88147b041e4fef35f91", func := "lockgate/lockgatelaw14.ValueMakes", spec := "valueMakes", apart := false }
def ValueMakesSaid : Prop := valueMakesRow.holds Try.pinned (OpenSpec.ofChange valueMakesSpec)

/-- ITS FALSE NEIGHBOUR: 'it returns false'. Refute it at one input. -/
def valueMakesWrong : ChangeSpec := { name := "valueMakes", fn := fun _ => fun
  | [d1, d2, d3, d4] => { results := [.lit (.bool false)], args := [d1, d2, d3, d4] }
  | _ => none }
def ValueMakesWrongFalsely : Prop := valueMakesRow.holds Try.pinned (OpenSpec.ofChange valueMakesWrong)

/-- 'lockgatelaw14.ValueCompares': WHATEVER THE INPUT: true; the input reads as it did. -/
def valueComparesSpec : ChangeSpec := { name := "valueCompares", fn := fun _ => fun
  | [d1, d2, d3, d4, d5] => { results := [.lit (.bool true)], args := [d1, d2, d3, d4, d5] }
  | _ => none }
def valueComparesRow : OpenClaim := { program := "ytnpbhippkcikoaa", sum := "4464515a035b80d61133f43a16a2e776eb7eefe6bfa7c88147b041e4fef35f91", func := "lockgate/lockgatelaw14.ValueCompares", spec := "valueCompares", apart := false }
def ValueComparesSaid : Prop := valueComparesRow.holds Try.pinned (OpenSpec.ofChange valueComparesSpec)

/-- ITS FALSE NEIGHBOUR: 'it returns false'. Refute it at one input. -/
def valueComparesWrong : ChangeSpec := { name := "valueCompares", fn := fun _ => fun
  | [d1, d2, d3, d4, d5] => { results := [.lit (.bool false)], args := [d1, d2, d3, d4, d5] }
  | _ => none }
def ValueComparesWrongFalsely : Prop := valueComparesRow.holds Try.pinned (OpenSpec.ofChange valueComparesWrong)

/-- 'lockgatelaw14.ValuePointers': WHATEVER THE INPUT: true; the input reads as it did. -/
def valuePointersSpec : ChangeSpec := { name := "valuePointers", fn := fun _ => fun
  | [d1, d2, d3, d4] => { results := [.lit (.bool true)], args := [d1, d2, d3, d4] }
  | _ => none }
def valuePointersRow : OpenClaim := { program := "ytnpbhippkcikoaa", sum := "4464515a035b80d61133f43a16a2e776eb7eefe6bfa7c88147b041e4fef35f91", func := "lockgate/lockgatelaw14.ValuePointers", spec := "valuePointers", apart := false }
def ValuePointersSaid : Prop := valuePointersRow.holds Try.pinned (OpenSpec.ofChange valuePointersSpec)

/-- ITS FALSE NEIGHBOUR: 'it returns false'. Refute it at one input. -/
def valuePointersWrong : ChangeSpec := { name := "valuePointers", fn := fun _ => fun
  | [d1, d2, d3, d4] => { results := [.lit (.bool false)], args := [d1, d2, d3, d4] }
  | _ => none }
def ValuePointersWrongFalsely : Prop := valuePointersRow.holds Try.pinned (OpenSpec.ofChange valuePointersWrong)

/-- 'lockgatelaw14.ValueBack': WHATEVER THE INPUT: true; the input reads as it did. -/
def valueBackSpec : ChangeSpec := { name := "valueBack", fn := fun _ => fun
  | [d1, d2, d3] => { results := [.lit (.bool true)], args := [d1, d2, d3] }
  | _ => none }
def valueBackRow : OpenClaim := { program := "ytnpbhippkcikoaa", sum := "4464515a035b80d61133f43a16a2e776eb7eefe6bfa7c88147b041e4fef35f91", func := "lockgate/lockgatelaw14.ValueBack", spec := "valueBack", apart := false }
def ValueBackSaid : Prop := valueBackRow.holds Try.pinned (OpenSpec.ofChange valueBackSpec)

/-- ITS FALSE NEIGHBOUR: 'it returns false'. Refute it at one input. -/
def valueBackWrong : ChangeSpec := { name := "valueBack", fn := fun _ => fun
  | [d1, d2, d3] => { results := [.lit (.bool false)], args := [d1, d2, d3] }
  | _ => none }
def ValueBackWrongFalsely : Prop := valueBackRow.holds Try.pinned (OpenSpec.ofChange valueBackWrong)

/-- 'lockgatelaw14.ValueOrders': WHATEVER THE INPUT: true; the input reads as it did. -/
def valueOrdersSpec : ChangeSpec := { name := "valueOrders", fn := fun _ => fun
  | [d1, d2] => { results := [.lit (.bool true)], args := [d1, d2] }
  | _ => none }
def valueOrdersRow : OpenClaim := { program := "ytnpbhippkcikoaa", sum := "4464515a035b80d61133f43a16a2e776eb7eefe6bfa7c88147b041e4fef35f91", func := "lockgate/lockgatelaw14.ValueOrders", spec := "valueOrders", apart := false }
def ValueOrdersSaid : Prop := valueOrdersRow.holds Try.pinned (OpenSpec.ofChange valueOrdersSpec)

/-- ITS FALSE NEIGHBOUR: 'it returns false'. Refute it at one input. -/
def valueOrdersWrong : ChangeSpec := { name := "valueOrders", fn := fun _ => fun
  | [d1, d2] => { results := [.lit (.bool false)], args := [d1, d2] }
  | _ => none }
def ValueOrdersWrongFalsely : Prop := valueOrdersRow.holds Try.pinned (OpenSpec.ofChange valueOrdersWrong)

/-- 'lockgatelaw14.ValueSwaps': WHATEVER THE INPUT: true; the input reads as it did. -/
def valueSwapsSpec : ChangeSpec := { name := "valueSwaps", fn := fun _ => fun
  | [d1, d2, d3] => { results := [.lit (.bool true)], args := [d1, d2, d3] }
  | _ => none }
def valueSwapsRow : OpenClaim := { program := "ytnpbhippkcikoaa", sum := "4464515a035b80d61133f43a16a2e776eb7eefe6bfa7c88147b041e4fef35f91", func := "lockgate/lockgatelaw14.ValueSwaps", spec := "valueSwaps", apart := false }
def ValueSwapsSaid : Prop := valueSwapsRow.holds Try.pinned (OpenSpec.ofChange valueSwapsSpec)

/-- ITS FALSE NEIGHBOUR: 'it returns false'. Refute it at one input. -/
def valueSwapsWrong : ChangeSpec := { name := "valueSwaps", fn := fun _ => fun
  | [d1, d2, d3] => { results := [.lit (.bool false)], args := [d1, d2, d3] }
  | _ => none }
def ValueSwapsWrongFalsely : Prop := valueSwapsRow.holds Try.pinned (OpenSpec.ofChange valueSwapsWrong)

/-- 'lockgatelaw14.ValueNumbers': WHATEVER THE INPUT: true; the input reads as it did. -/
def valueNumbersSpec : ChangeSpec := { name := "valueNumbers", fn := fun _ => fun
  | [d1, d2, d3, d4, d5] => { results := [.lit (.bool true)], args := [d1, d2, d3, d4, d5] }
  | _ => none }
def valueNumbersRow : OpenClaim := { program := "ytnpbhippkcikoaa", sum := "4464515a035b80d61133f43a16a2e776eb7eefe6bfa7c88147b041e4fef35f91", func := "lockgate/lockgatelaw14.ValueNumbers", spec := "valueNumbers", apart := false }
def ValueNumbersSaid : Prop := valueNumbersRow.holds Try.pinned (OpenSpec.ofChange valueNumbersSpec)

/-- ITS FALSE NEIGHBOUR: 'it returns false'. Refute it at one input. -/
def valueNumbersWrong : ChangeSpec := { name := "valueNumbers", fn := fun _ => fun
  | [d1, d2, d3, d4, d5] => { results := [.lit (.bool false)], args := [d1, d2, d3, d4, d5] }
  | _ => none }
def ValueNumbersWrongFalsely : Prop := valueNumbersRow.holds Try.pinned (OpenSpec.ofChange valueNumbersWrong)

/-- 'lockgatelaw14.ValueKnown': WHATEVER THE INPUT: true; the input reads as it did. -/
def valueKnownSpec : ChangeSpec := { name := "valueKnown", fn := fun _ => fun
  | [] => { results := [.lit (.bool true)], args := [] }
  | _ => none }
def valueKnownRow : OpenClaim := { program := "ytnpbhippkcikoaa", sum := "4464515a035b80d61133f43a16a2e776eb7eefe6bfa7c88147b041e4fef35f91", func := "lockgate/lockgatelaw14.ValueKnown", spec := "valueKnown", apart := false }
def ValueKnownSaid : Prop := valueKnownRow.holds Try.pinned (OpenSpec.ofChange valueKnownSpec)

/-- ITS FALSE NEIGHBOUR: 'it returns false'. Refute it at one input. -/
def valueKnownWrong : ChangeSpec := { name := "valueKnown", fn := fun _ => fun
  | [] => { results := [.lit (.bool false)], args := [] }
  | _ => none }
def ValueKnownWrongFalsely : Prop := valueKnownRow.holds Try.pinned (OpenSpec.ofChange valueKnownWrong)

/- THE SECOND FORM. 'bulk': how many values and letters a reading holds, each counted each time it is reached (what is shared counts as often as it is met; a slice's spare places count too). A statement '..UptoSaid' is the law's where the arguments, and the package variables that the reading takes, are together of bulk at most 1048576: NARROWER than '..Said'. Prove '..Said' where nothing that the law and all that it calls make is longer than what came in: it says more and counts as full. Else prove '..UptoSaid'. A law counts once. -/
mutual
def uptoBulk {H : Type} : DataW H → Nat
  | .lit (.string bytes) => bytes.length + 1
  | .lit _ => 1
  | .nil => 1
  | .ptr d => uptoBulk d + 1
  | .slice elems spare => uptoBulkAll elems + uptoBulkAll spare + 1
  | .agg parts => uptoBulkAll parts + 1
  | .iface _ d => uptoBulk d + 1
  | .map entries => uptoBulkEntries entries + 1
  | .held _ => 1
def uptoBulkAll {H : Type} : List (DataW H) → Nat
  | [] => 0
  | d :: r => uptoBulk d + uptoBulkAll r
def uptoBulkEntries {H : Type} : List (Lit × DataW H) → Nat
  | [] => 0
  | x :: r => uptoBulkEntry x + uptoBulkEntries r
def uptoBulkEntry {H : Type} : Lit × DataW H → Nat
  | (.string bytes, d) => bytes.length + uptoBulk d + 1
  | (_, d) => uptoBulk d + 1
 end
def uptoSmall : (H : Type) → List (DataW H) → Bool := fun _ ds => decide (uptoBulkAll ds ≤ 1048576)
def OpenSpec.upto (s : _root_.Go.ChangeSpec) : _root_.Go.OpenSpec := { _root_.Go.OpenSpec.ofChange s with cond := some uptoSmall }

/-- 'lockgatelaw14.ValueMakes', WHERE WHAT IT READS IS OF BULK AT MOST 1048576: true; the input reads as it did. -/
def valueMakesUptoRow : OpenClaim := { program := "ytnpbhippkcikoaa", sum := "4464515a035b80d61133f43a16a2e776eb7eefe6bfa7c88147b041e4fef35f91", func := "lockgate/lockgatelaw14.ValueMakes", spec := "valueMakes", apart := false, narrowed := true }
def ValueMakesUptoSaid : Prop := valueMakesUptoRow.holds Try.pinned (OpenSpec.upto valueMakesSpec)

/-- 'lockgatelaw14.ValueCompares', WHERE WHAT IT READS IS OF BULK AT MOST 1048576: true; the input reads as it did. -/
def valueComparesUptoRow : OpenClaim := { program := "ytnpbhippkcikoaa", sum := "4464515a035b80d61133f43a16a2e776eb7eefe6bfa7c88147b041e4fef35f91", func := "lockgate/lockgatelaw14.ValueCompares", spec := "valueCompares", apart := false, narrowed := true }
def ValueComparesUptoSaid : Prop := valueComparesUptoRow.holds Try.pinned (OpenSpec.upto valueComparesSpec)

/-- 'lockgatelaw14.ValuePointers', WHERE WHAT IT READS IS OF BULK AT MOST 1048576: true; the input reads as it did. -/
def valuePointersUptoRow : OpenClaim := { program := "ytnpbhippkcikoaa", sum := "4464515a035b80d61133f43a16a2e776eb7eefe6bfa7c88147b041e4fef35f91", func := "lockgate/lockgatelaw14.ValuePointers", spec := "valuePointers", apart := false, narrowed := true }
def ValuePointersUptoSaid : Prop := valuePointersUptoRow.holds Try.pinned (OpenSpec.upto valuePointersSpec)

/-- 'lockgatelaw14.ValueBack', WHERE WHAT IT READS IS OF BULK AT MOST 1048576: true; the input reads as it did. -/
def valueBackUptoRow : OpenClaim := { program := "ytnpbhippkcikoaa", sum := "4464515a035b80d61133f43a16a2e776eb7eefe6bfa7c88147b041e4fef35f91", func := "lockgate/lockgatelaw14.ValueBack", spec := "valueBack", apart := false, narrowed := true }
def ValueBackUptoSaid : Prop := valueBackUptoRow.holds Try.pinned (OpenSpec.upto valueBackSpec)

/-- 'lockgatelaw14.ValueOrders', WHERE WHAT IT READS IS OF BULK AT MOST 1048576: true; the input reads as it did. -/
def valueOrdersUptoRow : OpenClaim := { program := "ytnpbhippkcikoaa", sum := "4464515a035b80d61133f43a16a2e776eb7eefe6bfa7c88147b041e4fef35f91", func := "lockgate/lockgatelaw14.ValueOrders", spec := "valueOrders", apart := false, narrowed := true }
def ValueOrdersUptoSaid : Prop := valueOrdersUptoRow.holds Try.pinned (OpenSpec.upto valueOrdersSpec)

/-- 'lockgatelaw14.ValueSwaps', WHERE WHAT IT READS IS OF BULK AT MOST 1048576: true; the input reads as it did. -/
def valueSwapsUptoRow : OpenClaim := { program := "ytnpbhippkcikoaa", sum := "4464515a035b80d61133f43a16a2e776eb7eefe6bfa7c88147b041e4fef35f91", func := "lockgate/lockgatelaw14.ValueSwaps", spec := "valueSwaps", apart := false, narrowed := true }
def ValueSwapsUptoSaid : Prop := valueSwapsUptoRow.holds Try.pinned (OpenSpec.upto valueSwapsSpec)

/-- 'lockgatelaw14.ValueNumbers', WHERE WHAT IT READS IS OF BULK AT MOST 1048576: true; the input reads as it did. -/
def valueNumbersUptoRow : OpenClaim := { program := "ytnpbhippkcikoaa", sum := "4464515a035b80d61133f43a16a2e776eb7eefe6bfa7c88147b041e4fef35f91", func := "lockgate/lockgatelaw14.ValueNumbers", spec := "valueNumbers", apart := false, narrowed := true }
def ValueNumbersUptoSaid : Prop := valueNumbersUptoRow.holds Try.pinned (OpenSpec.upto valueNumbersSpec)

/-- 'lockgatelaw14.ValueKnown', WHERE WHAT IT READS IS OF BULK AT MOST 1048576: true; the input reads as it did. -/
def valueKnownUptoRow : OpenClaim := { program := "ytnpbhippkcikoaa", sum := "4464515a035b80d61133f43a16a2e776eb7eefe6bfa7c88147b041e4fef35f91", func := "lockgate/lockgatelaw14.ValueKnown", spec := "valueKnown", apart := false, narrowed := true }
def ValueKnownUptoSaid : Prop := valueKnownUptoRow.holds Try.pinned (OpenSpec.upto valueKnownSpec)

end Rows
end Go.Proofs.Ytnpbhippkcikoaa
