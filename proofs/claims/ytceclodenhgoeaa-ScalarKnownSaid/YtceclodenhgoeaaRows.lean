/-
  No cell of these rows narrows 'for every input' (looked for: loops, veiled, ifaces, maps, wideKeys, modest, calm, conditions, laid).
  DERIVED. THE GIVEN ROWS OF THIS SEAT. 5 by the template 'for every input the law returns true; each argument reads behind the call as it read before'; 0 by the template 'total and deterministic' (their statements: YtceclodenhgoeaaTotals.lean).
  GIVEN WITH THE SEED: the statements are not yours to turn. If you find one false, say at which input.
  Laid BY PROGRAM, IN A SANDBOX (cutbox-rows.mjs): the forced cells as the released guide's own fill.sh prints them over the translation fe58a51355e376d6… (all of the seat's roots in one cut). By AI agents, Wed Nov 11 2026. No macro, syntax, notation, axiom, sorry.
-/
import Derived.Test.YtceclodenhgoeaaChecked
import GoSem.Claim
import GoSem.ClaimJoined
import GoSem.ClaimMapViews
import Derived.JoinedTies
import Derived.KernelRfl
namespace Go.Proofs.Ytceclodenhgoeaa
/- THE CELL 'sum', in the pinned program and in every row, IS THE sha256 OF THE DUMP (.gsa) THAT YtceclodenhgoeaaProg.lean LOADS. Nothing in Lean hashes anything: it is a label: what it is worth is what the hold of that sum in a sandbox is worth. -/
noncomputable def Try.pinned : Pinned := { name := "ytceclodenhgoeaa", sum := "fe58a51355e376d6b115bf8d2101a73f5012d76798c472d9a1cfe325ad454786", checked := Try.checked }
namespace Rows
def none {H : Type} : Left H := { results := [], args := [] }

/-- 'lockgatelaw05.ScalarBranches': WHATEVER THE INPUT: true; the input reads as it did. -/
def scalarBranchesSpec : ChangeSpec := { name := "scalarBranches", fn := fun _ => fun
  | [d1, d2, d3, d4, d5, d6] => { results := [.lit (.bool true)], args := [d1, d2, d3, d4, d5, d6] }
  | _ => none }
def scalarBranchesRow : OpenClaim := { program := "ytceclodenhgoeaa", sum := "fe58a51355e376d6b115bf8d2101a73f5012d76798c472d9a1cfe325ad454786", func := "lockgate/lockgatelaw05.ScalarBranches", spec := "scalarBranches", unfollowed := true, recurses := true, apart := false }
def ScalarBranchesSaid : Prop := scalarBranchesRow.holds Try.pinned (OpenSpec.ofChange scalarBranchesSpec)

/-- ITS FALSE NEIGHBOUR: 'it returns false'. Refute it at one input. -/
def scalarBranchesWrong : ChangeSpec := { name := "scalarBranches", fn := fun _ => fun
  | [d1, d2, d3, d4, d5, d6] => { results := [.lit (.bool false)], args := [d1, d2, d3, d4, d5, d6] }
  | _ => none }
def ScalarBranchesWrongFalsely : Prop := scalarBranchesRow.holds Try.pinned (OpenSpec.ofChange scalarBranchesWrong)

/-- 'lockgatelaw05.ScalarWithin': WHATEVER THE INPUT: true; the input reads as it did. -/
def scalarWithinSpec : ChangeSpec := { name := "scalarWithin", fn := fun _ => fun
  | [d1, d2, d3, d4] => { results := [.lit (.bool true)], args := [d1, d2, d3, d4] }
  | _ => none }
def scalarWithinRow : OpenClaim := { program := "ytceclodenhgoeaa", sum := "fe58a51355e376d6b115bf8d2101a73f5012d76798c472d9a1cfe325ad454786", func := "lockgate/lockgatelaw05.ScalarWithin", spec := "scalarWithin", unfollowed := true, recurses := true, apart := false }
def ScalarWithinSaid : Prop := scalarWithinRow.holds Try.pinned (OpenSpec.ofChange scalarWithinSpec)

/-- ITS FALSE NEIGHBOUR: 'it returns false'. Refute it at one input. -/
def scalarWithinWrong : ChangeSpec := { name := "scalarWithin", fn := fun _ => fun
  | [d1, d2, d3, d4] => { results := [.lit (.bool false)], args := [d1, d2, d3, d4] }
  | _ => none }
def ScalarWithinWrongFalsely : Prop := scalarWithinRow.holds Try.pinned (OpenSpec.ofChange scalarWithinWrong)

/-- 'lockgatelaw05.ScalarSound': WHATEVER THE INPUT: true; the input reads as it did. -/
def scalarSoundSpec : ChangeSpec := { name := "scalarSound", fn := fun _ => fun
  | [d1, d2, d3, d4, d5, d6] => { results := [.lit (.bool true)], args := [d1, d2, d3, d4, d5, d6] }
  | _ => none }
def scalarSoundRow : OpenClaim := { program := "ytceclodenhgoeaa", sum := "fe58a51355e376d6b115bf8d2101a73f5012d76798c472d9a1cfe325ad454786", func := "lockgate/lockgatelaw05.ScalarSound", spec := "scalarSound", unfollowed := true, recurses := true, apart := false }
def ScalarSoundSaid : Prop := scalarSoundRow.holds Try.pinned (OpenSpec.ofChange scalarSoundSpec)

/-- ITS FALSE NEIGHBOUR: 'it returns false'. Refute it at one input. -/
def scalarSoundWrong : ChangeSpec := { name := "scalarSound", fn := fun _ => fun
  | [d1, d2, d3, d4, d5, d6] => { results := [.lit (.bool false)], args := [d1, d2, d3, d4, d5, d6] }
  | _ => none }
def ScalarSoundWrongFalsely : Prop := scalarSoundRow.holds Try.pinned (OpenSpec.ofChange scalarSoundWrong)

/-- 'lockgatelaw05.ScalarAlone': WHATEVER THE INPUT: true; the input reads as it did. -/
def scalarAloneSpec : ChangeSpec := { name := "scalarAlone", fn := fun _ => fun
  | [d1, d2, d3, d4] => { results := [.lit (.bool true)], args := [d1, d2, d3, d4] }
  | _ => none }
def scalarAloneRow : OpenClaim := { program := "ytceclodenhgoeaa", sum := "fe58a51355e376d6b115bf8d2101a73f5012d76798c472d9a1cfe325ad454786", func := "lockgate/lockgatelaw05.ScalarAlone", spec := "scalarAlone", unfollowed := true, recurses := true, apart := false }
def ScalarAloneSaid : Prop := scalarAloneRow.holds Try.pinned (OpenSpec.ofChange scalarAloneSpec)

/-- ITS FALSE NEIGHBOUR: 'it returns false'. Refute it at one input. -/
def scalarAloneWrong : ChangeSpec := { name := "scalarAlone", fn := fun _ => fun
  | [d1, d2, d3, d4] => { results := [.lit (.bool false)], args := [d1, d2, d3, d4] }
  | _ => none }
def ScalarAloneWrongFalsely : Prop := scalarAloneRow.holds Try.pinned (OpenSpec.ofChange scalarAloneWrong)

/-- 'lockgatelaw05.ScalarKnown': WHATEVER THE INPUT: true; the input reads as it did. -/
def scalarKnownSpec : ChangeSpec := { name := "scalarKnown", fn := fun _ => fun
  | [] => { results := [.lit (.bool true)], args := [] }
  | _ => none }
def scalarKnownRow : OpenClaim := { program := "ytceclodenhgoeaa", sum := "fe58a51355e376d6b115bf8d2101a73f5012d76798c472d9a1cfe325ad454786", func := "lockgate/lockgatelaw05.ScalarKnown", spec := "scalarKnown", unfollowed := true, recurses := true, apart := false }
def ScalarKnownSaid : Prop := scalarKnownRow.holds Try.pinned (OpenSpec.ofChange scalarKnownSpec)

/-- ITS FALSE NEIGHBOUR: 'it returns false'. Refute it at one input. -/
def scalarKnownWrong : ChangeSpec := { name := "scalarKnown", fn := fun _ => fun
  | [] => { results := [.lit (.bool false)], args := [] }
  | _ => none }
def ScalarKnownWrongFalsely : Prop := scalarKnownRow.holds Try.pinned (OpenSpec.ofChange scalarKnownWrong)

/- THE SECOND FORM. 'bulk': how many values and letters a reading holds, each counted each time it is reached (what is shared counts as often as it is met; a slice's spare places count too). A statement '..UptoSaid' is the law's where the arguments, and the package variables that the reading takes, are together of bulk at most 1048576: NARROWER than '..Said'. Prove '..Said' where nothing that the law and all that it calls make is longer than what came in: it says more and counts as full. Else prove '..UptoSaid'. A law counts once. -/
mutual
def uptoBulk {H : Type} : DataW H → Nat
  | .lit (.string bytes) => bytes.length + 1
  | .lit _ => 1
  | .nil => 1
  | .ptr d => uptoBulk d + 1
  | .slice elems spare => uptoBulkAll elems + uptoBulkAll spare + 1
  | .agg parts => uptoBulkAll parts + 1
  | .iface _ d => uptoBulk d + 1
  | .map entries => uptoBulkEntries entries + 1
  | .held _ => 1
def uptoBulkAll {H : Type} : List (DataW H) → Nat
  | [] => 0
  | d :: r => uptoBulk d + uptoBulkAll r
def uptoBulkEntries {H : Type} : List (Lit × DataW H) → Nat
  | [] => 0
  | x :: r => uptoBulkEntry x + uptoBulkEntries r
def uptoBulkEntry {H : Type} : Lit × DataW H → Nat
  | (.string bytes, d) => bytes.length + uptoBulk d + 1
  | (_, d) => uptoBulk d + 1
 end
def uptoSmall : (H : Type) → List (DataW H) → Bool := fun _ ds => decide (uptoBulkAll ds ≤ 1048576)
def OpenSpec.upto (s : _root_.Go.ChangeSpec) : _root_.Go.OpenSpec := { _root_.Go.OpenSpec.ofChange s with cond := some uptoSmall }

/-- 'lockgatelaw05.ScalarBranches', WHERE WHAT IT READS IS OF BULK AT MOST 1048576: true; the input reads as it did. -/
def scalarBranchesUptoRow : OpenClaim := { program := "ytceclodenhgoeaa", sum := "fe58a51355e376d6b115bf8d2101a73f5012d76798c472d9a1cfe325ad454786", func := "lockgate/lockgatelaw05.ScalarBranches", spec := "scalarBranches", unfollowed := true, recurses := true, apart := false, narrowed := true }
def ScalarBranchesUptoSaid : Prop := scalarBranchesUptoRow.holds Try.pinned (OpenSpec.upto scalarBranchesSpec)

/-- 'lockgatelaw05.ScalarWithin', WHERE WHAT IT READS IS OF BULK AT MOST 1048576: true; the input reads as it did. -/
def scalarWithinUptoRow : OpenClaim := { program := "ytceclodenhgoeaa", sum := "fe58a51355e376d6b115bf8d2101a73f5012d76798c472d9a1cfe325ad454786", func := "lockgate/lockgatelaw05.ScalarWithin", spec := "scalarWithin", unfollowed := true, recurses := true, apart := false, narrowed := true }
def ScalarWithinUptoSaid : Prop := scalarWithinUptoRow.holds Try.pinned (OpenSpec.upto scalarWithinSpec)

/-- 'lockgatelaw05.ScalarSound', WHERE WHAT IT READS IS OF BULK AT MOST 1048576: true; the input reads as it did. -/
def scalarSoundUptoRow : OpenClaim := { program := "ytceclodenhgoeaa", sum := "fe58a51355e376d6b115bf8d2101a73f5012d76798c472d9a1cfe325ad454786", func := "lockgate/lockgatelaw05.ScalarSound", spec := "scalarSound", unfollowed := true, recurses := true, apart := false, narrowed := true }
def ScalarSoundUptoSaid : Prop := scalarSoundUptoRow.holds Try.pinned (OpenSpec.upto scalarSoundSpec)

/-- 'lockgatelaw05.ScalarAlone', WHERE WHAT IT READS IS OF BULK AT MOST 1048576: true; the input reads as it did. -/
def scalarAloneUptoRow : OpenClaim := { program := "ytceclodenhgoeaa", sum := "fe58a51355e376d6b115bf8d2101a73f5012d76798c472d9a1cfe325ad454786", func := "lockgate/lockgatelaw05.ScalarAlone", spec := "scalarAlone", unfollowed := true, recurses := true, apart := false, narrowed := true }
def ScalarAloneUptoSaid : Prop := scalarAloneUptoRow.holds Try.pinned (OpenSpec.upto scalarAloneSpec)

/-- 'lockgatelaw05.ScalarKnown', WHERE WHAT IT READS IS OF BULK AT MOST 1048576: true; the input reads as it did. -/
def scalarKnownUptoRow : OpenClaim := { program := "ytceclodenhgoeaa", sum := "fe58a51355e376d6b115bf8d2101a73f5012d76798c472d9a1cfe325ad454786", func := "lockgate/lockgatelaw05.ScalarKnown", spec := "scalarKnown", unfollowed := true, recurses := true, apart := false, narrowed := true }
def ScalarKnownUptoSaid : Prop := scalarKnownUptoRow.holds Try.pinned (OpenSpec.upto scalarKnownSpec)

end Rows
end Go.Proofs.Ytceclodenhgoeaa
