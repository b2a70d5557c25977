/-
  No cell of these rows narrows 'for every input' (looked for: loops, veiled, ifaces, maps, wideKeys, modest, calm, conditions, laid).
  DERIVED. THE GIVEN ROWS OF THIS SEAT. 8 by the template 'for every input the law returns true; each argument reads behind the call as it read before'; 0 by the template 'total and deterministic' (their statements: YticijjonimiooaaTotals.lean).
  GIVEN WITH THE SEED: the statements are not yours to turn. If you find one false, say at which input.
  Laid BY PROGRAM, IN A SANDBOX (cutbox-rows.mjs): the forced cells as the released guide's own fill.sh prints them over the translation 356034b80d21cd96… (all of the seat's roots in one cut). By AI agents, Wed Nov 11 2026. No macro, syntax, notation, axiom, sorry.
-/
import Derived.Test.YticijjonimiooaaChecked
import GoSem.Claim
import GoSem.ClaimJoined
import GoSem.ClaimMapViews
import Derived.JoinedTies
import Derived.KernelRfl
namespace Go.Proofs.Yticijjonimiooaa
/- THE CELL 'sum', in the pinned program and in every row, IS THE sha256 OF THE DUMP (.gsa) THAT YticijjonimiooaaProg.lean LOADS. Nothing in Lean hashes anything: it is a label: what it is worth is what the hold of that sum in a sandbox is worth. -/
noncomputable def Try.pinned : Pinned := { name := "yticijjonimiooaa", sum := "356034b80d21cd96394a017fdfd95775079ceffbc77c7d0dd03253cb416091ab", checked := Try.checked }
namespace Rows
def none {H : Type} : Left H := { results := [], args := [] }

/-- 'lockgatelaw02.InsnPuts': WHATEVER THE INPUT: true; the input reads as it did. -/
def insnPutsSpec : ChangeSpec := { name := "insnPuts", fn := fun _ => fun
  | [d] => { results := [.lit (.bool true)], args := [d] }
  | _ => none }
def insnPutsRow : OpenClaim := { program := "yticijjonimiooaa", sum := "356034b80d21cd96394a017fdfd95775079ceffbc77c7d0dd03253cb416091ab", func := "lockgate/lockgatelaw02.InsnPuts", spec := "insnPuts", apart := false }
def InsnPutsSaid : Prop := insnPutsRow.holds Try.pinned (OpenSpec.ofChange insnPutsSpec)

/-- ITS FALSE NEIGHBOUR: 'it returns false'. Refute it at one input. -/
def insnPutsWrong : ChangeSpec := { name := "insnPuts", fn := fun _ => fun
  | [d] => { results := [.lit (.bool false)], args := [d] }
  | _ => none }
def InsnPutsWrongFalsely : Prop := insnPutsRow.holds Try.pinned (OpenSpec.ofChange insnPutsWrong)

/-- 'lockgatelaw02.InsnGets': WHATEVER THE INPUT: true; the input reads as it did. -/
def insnGetsSpec : ChangeSpec := { name := "insnGets", fn := fun _ => fun
  | [d] => { results := [.lit (.bool true)], args := [d] }
  | _ => none }
def insnGetsRow : OpenClaim := { program := "yticijjonimiooaa", sum := "356034b80d21cd96394a017fdfd95775079ceffbc77c7d0dd03253cb416091ab", func := "lockgate/lockgatelaw02.InsnGets", spec := "insnGets", apart := false }
def InsnGetsSaid : Prop := insnGetsRow.holds Try.pinned (OpenSpec.ofChange insnGetsSpec)

/-- ITS FALSE NEIGHBOUR: 'it returns false'. Refute it at one input. -/
def insnGetsWrong : ChangeSpec := { name := "insnGets", fn := fun _ => fun
  | [d] => { results := [.lit (.bool false)], args := [d] }
  | _ => none }
def InsnGetsWrongFalsely : Prop := insnGetsRow.holds Try.pinned (OpenSpec.ofChange insnGetsWrong)

/-- 'lockgatelaw02.InsnBack': WHATEVER THE INPUT: true; the input reads as it did. -/
def insnBackSpec : ChangeSpec := { name := "insnBack", fn := fun _ => fun
  | [d] => { results := [.lit (.bool true)], args := [d] }
  | _ => none }
def insnBackRow : OpenClaim := { program := "yticijjonimiooaa", sum := "356034b80d21cd96394a017fdfd95775079ceffbc77c7d0dd03253cb416091ab", func := "lockgate/lockgatelaw02.InsnBack", spec := "insnBack", apart := false }
def InsnBackSaid : Prop := insnBackRow.holds Try.pinned (OpenSpec.ofChange insnBackSpec)

/-- ITS FALSE NEIGHBOUR: 'it returns false'. Refute it at one input. -/
def insnBackWrong : ChangeSpec := { name := "insnBack", fn := fun _ => fun
  | [d] => { results := [.lit (.bool false)], args := [d] }
  | _ => none }
def InsnBackWrongFalsely : Prop := insnBackRow.holds Try.pinned (OpenSpec.ofChange insnBackWrong)

/-- 'lockgatelaw02.InsnForms': WHATEVER THE INPUT: true; the input reads as it did. -/
def insnFormsSpec : ChangeSpec := { name := "insnForms", fn := fun _ => fun
  | [d] => { results := [.lit (.bool true)], args := [d] }
  | _ => none }
def insnFormsRow : OpenClaim := { program := "yticijjonimiooaa", sum := "356034b80d21cd96394a017fdfd95775079ceffbc77c7d0dd03253cb416091ab", func := "lockgate/lockgatelaw02.InsnForms", spec := "insnForms", apart := false }
def InsnFormsSaid : Prop := insnFormsRow.holds Try.pinned (OpenSpec.ofChange insnFormsSpec)

/-- ITS FALSE NEIGHBOUR: 'it returns false'. Refute it at one input. -/
def insnFormsWrong : ChangeSpec := { name := "insnForms", fn := fun _ => fun
  | [d] => { results := [.lit (.bool false)], args := [d] }
  | _ => none }
def InsnFormsWrongFalsely : Prop := insnFormsRow.holds Try.pinned (OpenSpec.ofChange insnFormsWrong)

/-- 'lockgatelaw02.InsnApart': WHATEVER THE INPUT: true; the input reads as it did. -/
def insnApartSpec : ChangeSpec := { name := "insnApart", fn := fun _ => fun
  | [d1, d2] => { results := [.lit (.bool true)], args := [d1, d2] }
  | _ => none }
def insnApartRow : OpenClaim := { program := "yticijjonimiooaa", sum := "356034b80d21cd96394a017fdfd95775079ceffbc77c7d0dd03253cb416091ab", func := "lockgate/lockgatelaw02.InsnApart", spec := "insnApart", apart := false }
def InsnApartSaid : Prop := insnApartRow.holds Try.pinned (OpenSpec.ofChange insnApartSpec)

/-- ITS FALSE NEIGHBOUR: 'it returns false'. Refute it at one input. -/
def insnApartWrong : ChangeSpec := { name := "insnApart", fn := fun _ => fun
  | [d1, d2] => { results := [.lit (.bool false)], args := [d1, d2] }
  | _ => none }
def InsnApartWrongFalsely : Prop := insnApartRow.holds Try.pinned (OpenSpec.ofChange insnApartWrong)

/-- 'lockgatelaw02.InsnCut': WHATEVER THE INPUT: true; the input reads as it did. -/
def insnCutSpec : ChangeSpec := { name := "insnCut", fn := fun _ => fun
  | [d1, d2] => { results := [.lit (.bool true)], args := [d1, d2] }
  | _ => none }
def insnCutRow : OpenClaim := { program := "yticijjonimiooaa", sum := "356034b80d21cd96394a017fdfd95775079ceffbc77c7d0dd03253cb416091ab", func := "lockgate/lockgatelaw02.InsnCut", spec := "insnCut", apart := false }
def InsnCutSaid : Prop := insnCutRow.holds Try.pinned (OpenSpec.ofChange insnCutSpec)

/-- ITS FALSE NEIGHBOUR: 'it returns false'. Refute it at one input. -/
def insnCutWrong : ChangeSpec := { name := "insnCut", fn := fun _ => fun
  | [d1, d2] => { results := [.lit (.bool false)], args := [d1, d2] }
  | _ => none }
def InsnCutWrongFalsely : Prop := insnCutRow.holds Try.pinned (OpenSpec.ofChange insnCutWrong)

/-- 'lockgatelaw02.InsnChecks': WHATEVER THE INPUT: true; the input reads as it did. -/
def insnChecksSpec : ChangeSpec := { name := "insnChecks", fn := fun _ => fun
  | [d] => { results := [.lit (.bool true)], args := [d] }
  | _ => none }
def insnChecksRow : OpenClaim := { program := "yticijjonimiooaa", sum := "356034b80d21cd96394a017fdfd95775079ceffbc77c7d0dd03253cb416091ab", func := "lockgate/lockgatelaw02.InsnChecks", spec := "insnChecks", apart := false }
def InsnChecksSaid : Prop := insnChecksRow.holds Try.pinned (OpenSpec.ofChange insnChecksSpec)

/-- ITS FALSE NEIGHBOUR: 'it returns false'. Refute it at one input. -/
def insnChecksWrong : ChangeSpec := { name := "insnChecks", fn := fun _ => fun
  | [d] => { results := [.lit (.bool false)], args := [d] }
  | _ => none }
def InsnChecksWrongFalsely : Prop := insnChecksRow.holds Try.pinned (OpenSpec.ofChange insnChecksWrong)

/-- 'lockgatelaw02.InsnKnown': WHATEVER THE INPUT: true; the input reads as it did. -/
def insnKnownSpec : ChangeSpec := { name := "insnKnown", fn := fun _ => fun
  | [] => { results := [.lit (.bool true)], args := [] }
  | _ => none }
def insnKnownRow : OpenClaim := { program := "yticijjonimiooaa", sum := "356034b80d21cd96394a017fdfd95775079ceffbc77c7d0dd03253cb416091ab", func := "lockgate/lockgatelaw02.InsnKnown", spec := "insnKnown", apart := false }
def InsnKnownSaid : Prop := insnKnownRow.holds Try.pinned (OpenSpec.ofChange insnKnownSpec)

/-- ITS FALSE NEIGHBOUR: 'it returns false'. Refute it at one input. -/
def insnKnownWrong : ChangeSpec := { name := "insnKnown", fn := fun _ => fun
  | [] => { results := [.lit (.bool false)], args := [] }
  | _ => none }
def InsnKnownWrongFalsely : Prop := insnKnownRow.holds Try.pinned (OpenSpec.ofChange insnKnownWrong)

/- THE SECOND FORM. 'bulk': how many values and letters a reading holds, each counted each time it is reached (what is shared counts as often as it is met; a slice's spare places count too). A statement '..UptoSaid' is the law's where the arguments, and the package variables that the reading takes, are together of bulk at most 1048576: NARROWER than '..Said'. Prove '..Said' where nothing that the law and all that it calls make is longer than what came in: it says more and counts as full. Else prove '..UptoSaid'. A law counts once. -/
mutual
def uptoBulk {H : Type} : DataW H → Nat
  | .lit (.string bytes) => bytes.length + 1
  | .lit _ => 1
  | .nil => 1
  | .ptr d => uptoBulk d + 1
  | .slice elems spare => uptoBulkAll elems + uptoBulkAll spare + 1
  | .agg parts => uptoBulkAll parts + 1
  | .iface _ d => uptoBulk d + 1
  | .map entries => uptoBulkEntries entries + 1
  | .held _ => 1
def uptoBulkAll {H : Type} : List (DataW H) → Nat
  | [] => 0
  | d :: r => uptoBulk d + uptoBulkAll r
def uptoBulkEntries {H : Type} : List (Lit × DataW H) → Nat
  | [] => 0
  | x :: r => uptoBulkEntry x + uptoBulkEntries r
def uptoBulkEntry {H : Type} : Lit × DataW H → Nat
  | (.string bytes, d) => bytes.length + uptoBulk d + 1
  | (_, d) => uptoBulk d + 1
 end
def uptoSmall : (H : Type) → List (DataW H) → Bool := fun _ ds => decide (uptoBulkAll ds ≤ 1048576)
def OpenSpec.upto (s : _root_.Go.ChangeSpec) : _root_.Go.OpenSpec := { _root_.Go.OpenSpec.ofChange s with cond := some uptoSmall }

/-- 'lockgatelaw02.InsnPuts', WHERE WHAT IT READS IS OF BULK AT MOST 1048576: true; the input reads as it did. -/
def insnPutsUptoRow : OpenClaim := { program := "yticijjonimiooaa", sum := "356034b80d21cd96394a017fdfd95775079ceffbc77c7d0dd03253cb416091ab", func := "lockgate/lockgatelaw02.InsnPuts", spec := "insnPuts", apart := false, narrowed := true }
def InsnPutsUptoSaid : Prop := insnPutsUptoRow.holds Try.pinned (OpenSpec.upto insnPutsSpec)

/-- 'lockgatelaw02.InsnGets', WHERE WHAT IT READS IS OF BULK AT MOST 1048576: true; the input reads as it did. -/
def insnGetsUptoRow : OpenClaim := { program := "yticijjonimiooaa", sum := "356034b80d21cd96394a017fdfd95775079ceffbc77c7d0dd03253cb416091ab", func := "lockgate/lockgatelaw02.InsnGets", spec := "insnGets", apart := false, narrowed := true }
def InsnGetsUptoSaid : Prop := insnGetsUptoRow.holds Try.pinned (OpenSpec.upto insnGetsSpec)

/-- 'lockgatelaw02.InsnBack', WHERE WHAT IT READS IS OF BULK AT MOST 1048576: true; the input reads as it did. -/
def insnBackUptoRow : OpenClaim := { program := "yticijjonimiooaa", sum := "356034b80d21cd96394a017fdfd95775079ceffbc77c7d0dd03253cb416091ab", func := "lockgate/lockgatelaw02.InsnBack", spec := "insnBack", apart := false, narrowed := true }
def InsnBackUptoSaid : Prop := insnBackUptoRow.holds Try.pinned (OpenSpec.upto insnBackSpec)

/-- 'lockgatelaw02.InsnForms', WHERE WHAT IT READS IS OF BULK AT MOST 1048576: true; the input reads as it did. -/
def insnFormsUptoRow : OpenClaim := { program := "yticijjonimiooaa", sum := "356034b80d21cd96394a017fdfd95775079ceffbc77c7d0dd03253cb416091ab", func := "lockgate/lockgatelaw02.InsnForms", spec := "insnForms", apart := false, narrowed := true }
def InsnFormsUptoSaid : Prop := insnFormsUptoRow.holds Try.pinned (OpenSpec.upto insnFormsSpec)

/-- 'lockgatelaw02.InsnApart', WHERE WHAT IT READS IS OF BULK AT MOST 1048576: true; the input reads as it did. -/
def insnApartUptoRow : OpenClaim := { program := "yticijjonimiooaa", sum := "356034b80d21cd96394a017fdfd95775079ceffbc77c7d0dd03253cb416091ab", func := "lockgate/lockgatelaw02.InsnApart", spec := "insnApart", apart := false, narrowed := true }
def InsnApartUptoSaid : Prop := insnApartUptoRow.holds Try.pinned (OpenSpec.upto insnApartSpec)

/-- 'lockgatelaw02.InsnCut', WHERE WHAT IT READS IS OF BULK AT MOST 1048576: true; the input reads as it did. -/
def insnCutUptoRow : OpenClaim := { program := "yticijjonimiooaa", sum := "356034b80d21cd96394a017fdfd95775079ceffbc77c7d0dd03253cb416091ab", func := "lockgate/lockgatelaw02.InsnCut", spec := "insnCut", apart := false, narrowed := true }
def InsnCutUptoSaid : Prop := insnCutUptoRow.holds Try.pinned (OpenSpec.upto insnCutSpec)

/-- 'lockgatelaw02.InsnChecks', WHERE WHAT IT READS IS OF BULK AT MOST 1048576: true; the input reads as it did. -/
def insnChecksUptoRow : OpenClaim := { program := "yticijjonimiooaa", sum := "356034b80d21cd96394a017fdfd95775079ceffbc77c7d0dd03253cb416091ab", func := "lockgate/lockgatelaw02.InsnChecks", spec := "insnChecks", apart := false, narrowed := true }
def InsnChecksUptoSaid : Prop := insnChecksUptoRow.holds Try.pinned (OpenSpec.upto insnChecksSpec)

/-- 'lockgatelaw02.InsnKnown', WHERE WHAT IT READS IS OF BULK AT MOST 1048576: true; the input reads as it did. -/
def insnKnownUptoRow : OpenClaim := { program := "yticijjonimiooaa", sum := "356034b80d21cd96394a017fdfd95775079ceffbc77c7d0dd03253cb416091ab", func := "lockgate/lockgatelaw02.InsnKnown", spec := "insnKnown", apart := false, narrowed := true }
def InsnKnownUptoSaid : Prop := insnKnownUptoRow.holds Try.pinned (OpenSpec.upto insnKnownSpec)

end Rows
end Go.Proofs.Yticijjonimiooaa
