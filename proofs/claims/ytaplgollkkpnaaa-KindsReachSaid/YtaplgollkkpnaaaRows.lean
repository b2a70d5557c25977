/-
  No cell of these rows narrows 'for every input' (looked for: loops, veiled, ifaces, maps, wideKeys, modest, calm, conditions, laid).
  DERIVED. THE GIVEN ROWS OF THIS SEAT. 3 by the template 'for every input the law returns true; each argument reads behind the call as it read before'; 0 by the template 'total and deterministic' (their statements: YtaplgollkkpnaaaTotals.lean).
  GIVEN WITH THE SEED: the statements are not yours to turn. If you find one false, say at which input.
  Laid BY PROGRAM, IN A SANDBOX (cutbox-rows.mjs): the forced cells as the released guide's own fill.sh prints them over the translation e15e6fd870112970… (all of the seat's roots in one cut). By AI agents, Wed Nov 11 2026. No macro, syntax, notation, axiom, sorry.
-/
import Derived.Test.YtaplgollkkpnaaaChecked
import GoSem.Claim
import GoSem.ClaimJoined
import GoSem.ClaimMapViews
import Derived.JoinedTies
import Derived.KernelRfl
namespace Go.Proofs.Ytaplgollkkpnaaa
/- THE CELL 'sum', in the pinned program and in every row, IS THE sha256 OF THE DUMP (.gsa) THAT YtaplgollkkpnaaaProg.lean LOADS. Nothing in Lean hashes anything: it is a label: what it is worth is what the hold of that sum in a sandbox is worth. -/
noncomputable def Try.pinned : Pinned := { name := "ytaplgollkkpnaaa", sum := "e15e6fd8701129706929161e1002666ef28ccc161e09f42ddc67820897cb6838", checked := Try.checked }
namespace Rows
def none {H : Type} : Left H := { results := [], args := [] }

/-- 'lockgatelaw18.KindsReach': WHATEVER THE INPUT: true; the input reads as it did. -/
def kindsReachSpec : ChangeSpec := { name := "kindsReach", fn := fun _ => fun
  | [d1, d2, d3, d4, d5] => { results := [.lit (.bool true)], args := [d1, d2, d3, d4, d5] }
  | _ => none }
def kindsReachRow : OpenClaim := { program := "ytaplgollkkpnaaa", sum := "e15e6fd8701129706929161e1002666ef28ccc161e09f42ddc67820897cb6838", func := "lockgate/lockgatelaw18.KindsReach", spec := "kindsReach", unfollowed := true, recurses := true, apart := false }
def KindsReachSaid : Prop := kindsReachRow.holds Try.pinned (OpenSpec.ofChange kindsReachSpec)

/-- ITS FALSE NEIGHBOUR: 'it returns false'. Refute it at one input. -/
def kindsReachWrong : ChangeSpec := { name := "kindsReach", fn := fun _ => fun
  | [d1, d2, d3, d4, d5] => { results := [.lit (.bool false)], args := [d1, d2, d3, d4, d5] }
  | _ => none }
def KindsReachWrongFalsely : Prop := kindsReachRow.holds Try.pinned (OpenSpec.ofChange kindsReachWrong)

/-- 'lockgatelaw18.KindsHolds': WHATEVER THE INPUT: true; the input reads as it did. -/
def kindsHoldsSpec : ChangeSpec := { name := "kindsHolds", fn := fun _ => fun
  | [d1, d2, d3, d4, d5] => { results := [.lit (.bool true)], args := [d1, d2, d3, d4, d5] }
  | _ => none }
def kindsHoldsRow : OpenClaim := { program := "ytaplgollkkpnaaa", sum := "e15e6fd8701129706929161e1002666ef28ccc161e09f42ddc67820897cb6838", func := "lockgate/lockgatelaw18.KindsHolds", spec := "kindsHolds", unfollowed := true, recurses := true, apart := false }
def KindsHoldsSaid : Prop := kindsHoldsRow.holds Try.pinned (OpenSpec.ofChange kindsHoldsSpec)

/-- ITS FALSE NEIGHBOUR: 'it returns false'. Refute it at one input. -/
def kindsHoldsWrong : ChangeSpec := { name := "kindsHolds", fn := fun _ => fun
  | [d1, d2, d3, d4, d5] => { results := [.lit (.bool false)], args := [d1, d2, d3, d4, d5] }
  | _ => none }
def KindsHoldsWrongFalsely : Prop := kindsHoldsRow.holds Try.pinned (OpenSpec.ofChange kindsHoldsWrong)

/-- 'lockgatelaw18.KindsSound': WHATEVER THE INPUT: true; the input reads as it did. -/
def kindsSoundSpec : ChangeSpec := { name := "kindsSound", fn := fun _ => fun
  | [d1, d2, d3, d4, d5, d6, d7, d8, d9] => { results := [.lit (.bool true)], args := [d1, d2, d3, d4, d5, d6, d7, d8, d9] }
  | _ => none }
def kindsSoundRow : OpenClaim := { program := "ytaplgollkkpnaaa", sum := "e15e6fd8701129706929161e1002666ef28ccc161e09f42ddc67820897cb6838", func := "lockgate/lockgatelaw18.KindsSound", spec := "kindsSound", unfollowed := true, recurses := true, apart := false }
def KindsSoundSaid : Prop := kindsSoundRow.holds Try.pinned (OpenSpec.ofChange kindsSoundSpec)

/-- ITS FALSE NEIGHBOUR: 'it returns false'. Refute it at one input. -/
def kindsSoundWrong : ChangeSpec := { name := "kindsSound", fn := fun _ => fun
  | [d1, d2, d3, d4, d5, d6, d7, d8, d9] => { results := [.lit (.bool false)], args := [d1, d2, d3, d4, d5, d6, d7, d8, d9] }
  | _ => none }
def KindsSoundWrongFalsely : Prop := kindsSoundRow.holds Try.pinned (OpenSpec.ofChange kindsSoundWrong)

/- THE SECOND FORM. 'bulk': how many values and letters a reading holds, each counted each time it is reached (what is shared counts as often as it is met; a slice's spare places count too). A statement '..UptoSaid' is the law's where the arguments, and the package variables that the reading takes, are together of bulk at most 1048576: NARROWER than '..Said'. Prove '..Said' where nothing that the law and all that it calls make is longer than what came in: it says more and counts as full. Else prove '..UptoSaid'. A law counts once. -/
mutual
def uptoBulk {H : Type} : DataW H → Nat
  | .lit (.string bytes) => bytes.length + 1
  | .lit _ => 1
  | .nil => 1
  | .ptr d => uptoBulk d + 1
  | .slice elems spare => uptoBulkAll elems + uptoBulkAll spare + 1
  | .agg parts => uptoBulkAll parts + 1
  | .iface _ d => uptoBulk d + 1
  | .map entries => uptoBulkEntries entries + 1
  | .held _ => 1
def uptoBulkAll {H : Type} : List (DataW H) → Nat
  | [] => 0
  | d :: r => uptoBulk d + uptoBulkAll r
def uptoBulkEntries {H : Type} : List (Lit × DataW H) → Nat
  | [] => 0
  | x :: r => uptoBulkEntry x + uptoBulkEntries r
def uptoBulkEntry {H : Type} : Lit × DataW H → Nat
  | (.string bytes, d) => bytes.length + uptoBulk d + 1
  | (_, d) => uptoBulk d + 1
 end
def uptoSmall : (H : Type) → List (DataW H) → Bool := fun _ ds => decide (uptoBulkAll ds ≤ 1048576)
def OpenSpec.upto (s : _root_.Go.ChangeSpec) : _root_.Go.OpenSpec := { _root_.Go.OpenSpec.ofChange s with cond := some uptoSmall }

/-- 'lockgatelaw18.KindsReach', WHERE WHAT IT READS IS OF BULK AT MOST 1048576: true; the input reads as it did. -/
def kindsReachUptoRow : OpenClaim := { program := "ytaplgollkkpnaaa", sum := "e15e6fd8701129706929161e1002666ef28ccc161e09f42ddc67820897cb6838", func := "lockgate/lockgatelaw18.KindsReach", spec := "kindsReach", unfollowed := true, recurses := true, apart := false, narrowed := true }
def KindsReachUptoSaid : Prop := kindsReachUptoRow.holds Try.pinned (OpenSpec.upto kindsReachSpec)

/-- 'lockgatelaw18.KindsHolds', WHERE WHAT IT READS IS OF BULK AT MOST 1048576: true; the input reads as it did. -/
def kindsHoldsUptoRow : OpenClaim := { program := "ytaplgollkkpnaaa", sum := "e15e6fd8701129706929161e1002666ef28ccc161e09f42ddc67820897cb6838", func := "lockgate/lockgatelaw18.KindsHolds", spec := "kindsHolds", unfollowed := true, recurses := true, apart := false, narrowed := true }
def KindsHoldsUptoSaid : Prop := kindsHoldsUptoRow.holds Try.pinned (OpenSpec.upto kindsHoldsSpec)

/-- 'lockgatelaw18.KindsSound', WHERE WHAT IT READS IS OF BULK AT MOST 1048576: true; the input reads as it did. -/
def kindsSoundUptoRow : OpenClaim := { program := "ytaplgollkkpnaaa", sum := "e15e6fd8701129706929161e1002666ef28ccc161e09f42ddc67820897cb6838", func := "lockgate/lockgatelaw18.KindsSound", spec := "kindsSound", unfollowed := true, recurses := true, apart := false, narrowed := true }
def KindsSoundUptoSaid : Prop := kindsSoundUptoRow.holds Try.pinned (OpenSpec.upto kindsSoundSpec)

end Rows
end Go.Proofs.Ytaplgollkkpnaaa
