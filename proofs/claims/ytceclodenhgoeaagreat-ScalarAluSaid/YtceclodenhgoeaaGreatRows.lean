/-
  No cell of these rows narrows 'for every input' (looked for: loops, veiled, ifaces, maps, wideKeys, modest, calm, conditions, laid).
  DERIVED. THE GIVEN ROWS OF THIS SEAT. 4 by the template 'for every input the law returns true; each argument reads behind the call as it read before'; 0 by the template 'total and deterministic' (their statements: YtceclodenhgoeaaGreatTotals.lean).
  GIVEN WITH THE SEED: the statements are not yours to turn. If you find one false, say at which input.
  Laid BY PROGRAM, IN A SANDBOX (cutbox-rows.mjs): the forced cells as the released guide's own fill.sh prints them over the translation 95d577115bae3f59… (all of the seat's roots in one cut). By AI agents, Wed Nov 11 2026. No macro, syntax, notation, axiom, sorry.
-/
import Derived.Test.YtceclodenhgoeaaGreatChecked
import GoSem.Claim
import GoSem.ClaimJoined
import GoSem.ClaimMapViews
import Derived.JoinedTies
import Derived.KernelRfl
namespace Go.Proofs.YtceclodenhgoeaaGreat
/- THE CELL 'sum', in the pinned program and in every row, IS THE sha256 OF THE DUMP (.gsa) THAT YtceclodenhgoeaaGreatProg.lean LOADS. Nothing in Lean hashes anything: it is a label: what it is worth is what the hold of that sum in a sandbox is worth. -/
noncomputable def Tryz.pinned : Pinned := { name := "ytceclodenhgoeaagreat", sum := "95d577115bae3f590964eacf95502e6572b4f41b6820d70f7ca485b440783dd5", checked := Tryz.checked }
namespace Rows
def none {H : Type} : Left H := { results := [], args := [] }

/-- 'lockgatelaw05.ScalarAlu': WHATEVER THE INPUT: true; the input reads as it did. -/
def scalarAluSpec : ChangeSpec := { name := "scalarAlu", fn := fun _ => fun
  | [d1, d2, d3, d4] => { results := [.lit (.bool true)], args := [d1, d2, d3, d4] }
  | _ => none }
def scalarAluRow : OpenClaim := { program := "ytceclodenhgoeaagreat", sum := "95d577115bae3f590964eacf95502e6572b4f41b6820d70f7ca485b440783dd5", func := "lockgate/lockgatelaw05.ScalarAlu", spec := "scalarAlu", unfollowed := true, recurses := true, apart := false }
def ScalarAluSaid : Prop := scalarAluRow.holds Tryz.pinned (OpenSpec.ofChange scalarAluSpec)

/-- ITS FALSE NEIGHBOUR: 'it returns false'. Refute it at one input. -/
def scalarAluWrong : ChangeSpec := { name := "scalarAlu", fn := fun _ => fun
  | [d1, d2, d3, d4] => { results := [.lit (.bool false)], args := [d1, d2, d3, d4] }
  | _ => none }
def ScalarAluWrongFalsely : Prop := scalarAluRow.holds Tryz.pinned (OpenSpec.ofChange scalarAluWrong)

/-- 'lockgatelaw05.ScalarBranch': WHATEVER THE INPUT: true; the input reads as it did. -/
def scalarBranchSpec : ChangeSpec := { name := "scalarBranch", fn := fun _ => fun
  | [d1, d2, d3, d4, d5] => { results := [.lit (.bool true)], args := [d1, d2, d3, d4, d5] }
  | _ => none }
def scalarBranchRow : OpenClaim := { program := "ytceclodenhgoeaagreat", sum := "95d577115bae3f590964eacf95502e6572b4f41b6820d70f7ca485b440783dd5", func := "lockgate/lockgatelaw05.ScalarBranch", spec := "scalarBranch", unfollowed := true, recurses := true, apart := false }
def ScalarBranchSaid : Prop := scalarBranchRow.holds Tryz.pinned (OpenSpec.ofChange scalarBranchSpec)

/-- ITS FALSE NEIGHBOUR: 'it returns false'. Refute it at one input. -/
def scalarBranchWrong : ChangeSpec := { name := "scalarBranch", fn := fun _ => fun
  | [d1, d2, d3, d4, d5] => { results := [.lit (.bool false)], args := [d1, d2, d3, d4, d5] }
  | _ => none }
def ScalarBranchWrongFalsely : Prop := scalarBranchRow.holds Tryz.pinned (OpenSpec.ofChange scalarBranchWrong)

/-- 'lockgatelaw05.ScalarSets': WHATEVER THE INPUT: true; the input reads as it did. -/
def scalarSetsSpec : ChangeSpec := { name := "scalarSets", fn := fun _ => fun
  | [d1, d2, d3, d4] => { results := [.lit (.bool true)], args := [d1, d2, d3, d4] }
  | _ => none }
def scalarSetsRow : OpenClaim := { program := "ytceclodenhgoeaagreat", sum := "95d577115bae3f590964eacf95502e6572b4f41b6820d70f7ca485b440783dd5", func := "lockgate/lockgatelaw05.ScalarSets", spec := "scalarSets", unfollowed := true, recurses := true, apart := false }
def ScalarSetsSaid : Prop := scalarSetsRow.holds Tryz.pinned (OpenSpec.ofChange scalarSetsSpec)

/-- ITS FALSE NEIGHBOUR: 'it returns false'. Refute it at one input. -/
def scalarSetsWrong : ChangeSpec := { name := "scalarSets", fn := fun _ => fun
  | [d1, d2, d3, d4] => { results := [.lit (.bool false)], args := [d1, d2, d3, d4] }
  | _ => none }
def ScalarSetsWrongFalsely : Prop := scalarSetsRow.holds Tryz.pinned (OpenSpec.ofChange scalarSetsWrong)

/-- 'lockgatelaw05.ScalarSwap': WHATEVER THE INPUT: true; the input reads as it did. -/
def scalarSwapSpec : ChangeSpec := { name := "scalarSwap", fn := fun _ => fun
  | [d1, d2, d3] => { results := [.lit (.bool true)], args := [d1, d2, d3] }
  | _ => none }
def scalarSwapRow : OpenClaim := { program := "ytceclodenhgoeaagreat", sum := "95d577115bae3f590964eacf95502e6572b4f41b6820d70f7ca485b440783dd5", func := "lockgate/lockgatelaw05.ScalarSwap", spec := "scalarSwap", unfollowed := true, recurses := true, apart := false }
def ScalarSwapSaid : Prop := scalarSwapRow.holds Tryz.pinned (OpenSpec.ofChange scalarSwapSpec)

/-- ITS FALSE NEIGHBOUR: 'it returns false'. Refute it at one input. -/
def scalarSwapWrong : ChangeSpec := { name := "scalarSwap", fn := fun _ => fun
  | [d1, d2, d3] => { results := [.lit (.bool false)], args := [d1, d2, d3] }
  | _ => none }
def ScalarSwapWrongFalsely : Prop := scalarSwapRow.holds Tryz.pinned (OpenSpec.ofChange scalarSwapWrong)

/- THE SECOND FORM. 'bulk': how many values and letters a reading holds, each counted each time it is reached (what is shared counts as often as it is met; a slice's spare places count too). A statement '..UptoSaid' is the law's where the arguments, and the package variables that the reading takes, are together of bulk at most 1048576: NARROWER than '..Said'. Prove '..Said' where nothing that the law and all that it calls make is longer than what came in: it says more and counts as full. Else prove '..UptoSaid'. A law counts once. -/
mutual
def uptoBulk {H : Type} : DataW H → Nat
  | .lit (.string bytes) => bytes.length + 1
  | .lit _ => 1
  | .nil => 1
  | .ptr d => uptoBulk d + 1
  | .slice elems spare => uptoBulkAll elems + uptoBulkAll spare + 1
  | .agg parts => uptoBulkAll parts + 1
  | .iface _ d => uptoBulk d + 1
  | .map entries => uptoBulkEntries entries + 1
  | .held _ => 1
def uptoBulkAll {H : Type} : List (DataW H) → Nat
  | [] => 0
  | d :: r => uptoBulk d + uptoBulkAll r
def uptoBulkEntries {H : Type} : List (Lit × DataW H) → Nat
  | [] => 0
  | x :: r => uptoBulkEntry x + uptoBulkEntries r
def uptoBulkEntry {H : Type} : Lit × DataW H → Nat
  | (.string bytes, d) => bytes.length + uptoBulk d + 1
  | (_, d) => uptoBulk d + 1
 end
def uptoSmall : (H : Type) → List (DataW H) → Bool := fun _ ds => decide (uptoBulkAll ds ≤ 1048576)
def OpenSpec.upto (s : _root_.Go.ChangeSpec) : _root_.Go.OpenSpec := { _root_.Go.OpenSpec.ofChange s with cond := some uptoSmall }

/-- 'lockgatelaw05.ScalarAlu', WHERE WHAT IT READS IS OF BULK AT MOST 1048576: true; the input reads as it did. -/
def scalarAluUptoRow : OpenClaim := { program := "ytceclodenhgoeaagreat", sum := "95d577115bae3f590964eacf95502e6572b4f41b6820d70f7ca485b440783dd5", func := "lockgate/lockgatelaw05.ScalarAlu", spec := "scalarAlu", unfollowed := true, recurses := true, apart := false, narrowed := true }
def ScalarAluUptoSaid : Prop := scalarAluUptoRow.holds Tryz.pinned (OpenSpec.upto scalarAluSpec)

/-- 'lockgatelaw05.ScalarBranch', WHERE WHAT IT READS IS OF BULK AT MOST 1048576: true; the input reads as it did. -/
def scalarBranchUptoRow : OpenClaim := { program := "ytceclodenhgoeaagreat", sum := "95d577115bae3f590964eacf95502e6572b4f41b6820d70f7ca485b440783dd5", func := "lockgate/lockgatelaw05.ScalarBranch", spec := "scalarBranch", unfollowed := true, recurses := true, apart := false, narrowed := true }
def ScalarBranchUptoSaid : Prop := scalarBranchUptoRow.holds Tryz.pinned (OpenSpec.upto scalarBranchSpec)

/-- 'lockgatelaw05.ScalarSets', WHERE WHAT IT READS IS OF BULK AT MOST 1048576: true; the input reads as it did. -/
def scalarSetsUptoRow : OpenClaim := { program := "ytceclodenhgoeaagreat", sum := "95d577115bae3f590964eacf95502e6572b4f41b6820d70f7ca485b440783dd5", func := "lockgate/lockgatelaw05.ScalarSets", spec := "scalarSets", unfollowed := true, recurses := true, apart := false, narrowed := true }
def ScalarSetsUptoSaid : Prop := scalarSetsUptoRow.holds Tryz.pinned (OpenSpec.upto scalarSetsSpec)

/-- 'lockgatelaw05.ScalarSwap', WHERE WHAT IT READS IS OF BULK AT MOST 1048576: true; the input reads as it did. -/
def scalarSwapUptoRow : OpenClaim := { program := "ytceclodenhgoeaagreat", sum := "95d577115bae3f590964eacf95502e6572b4f41b6820d70f7ca485b440783dd5", func := "lockgate/lockgatelaw05.ScalarSwap", spec := "scalarSwap", unfollowed := true, recurses := true, apart := false, narrowed := true }
def ScalarSwapUptoSaid : Prop := scalarSwapUptoRow.holds Tryz.pinned (OpenSpec.upto scalarSwapSpec)

end Rows
end Go.Proofs.YtceclodenhgoeaaGreat
