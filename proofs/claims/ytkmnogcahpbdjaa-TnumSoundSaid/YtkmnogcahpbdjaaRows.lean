/-
  No cell of these rows narrows 'for every input' (looked for: loops, veiled, ifaces, maps, wideKeys, modest, calm, conditions, laid).
  DERIVED. THE GIVEN ROWS OF THIS SEAT. 9 by the template 'for every input the law returns true; each argument reads behind the call as it read before'; 0 by the template 'total and deterministic' (their statements: YtkmnogcahpbdjaaTotals.lean).
  GIVEN WITH THE SEED: the statements are not yours to turn. If you find one false, say at which input.
  Laid BY PROGRAM, IN A SANDBOX (cutbox-rows.mjs): the forced cells as the released guide's own fill.sh prints them over the translation 00a4990dcc2b16da… (all of the seat's roots in one cut). By AI agents, Wed Nov 11 2026. No macro, syntax, notation, axiom, sorry.
-/
import Derived.Test.YtkmnogcahpbdjaaChecked
import GoSem.Claim
import GoSem.ClaimJoined
import GoSem.ClaimMapViews
import Derived.JoinedTies
import Derived.KernelRfl
namespace Go.Proofs.Ytkmnogcahpbdjaa
/- THE CELL 'sum', in the pinned program and in every row, IS THE sha256 OF THE DUMP (.gsa) THAT YtkmnogcahpbdjaaProg.lean LOADS. Nothing in Lean hashes anything: it is a label: what it is worth is what the hold of that sum in a sandbox is worth. -/
noncomputable def Try.pinned : Pinned := { name := "ytkmnogcahpbdjaa", sum := "00a4990dcc2b16da570eb481039b606b8fb341fd01c3069c02864c250be3a035", checked := Try.checked }
namespace Rows
def none {H : Type} : Left H := { results := [], args := [] }

/-- 'lockgatelaw03.TnumWithin': WHATEVER THE INPUT: true; the input reads as it did. -/
def tnumWithinSpec : ChangeSpec := { name := "tnumWithin", fn := fun _ => fun
  | [d1, d2, d3] => { results := [.lit (.bool true)], args := [d1, d2, d3] }
  | _ => none }
def tnumWithinRow : OpenClaim := { program := "ytkmnogcahpbdjaa", sum := "00a4990dcc2b16da570eb481039b606b8fb341fd01c3069c02864c250be3a035", func := "lockgate/lockgatelaw03.TnumWithin", spec := "tnumWithin", apart := false }
def TnumWithinSaid : Prop := tnumWithinRow.holds Try.pinned (OpenSpec.ofChange tnumWithinSpec)

/-- ITS FALSE NEIGHBOUR: 'it returns false'. Refute it at one input. -/
def tnumWithinWrong : ChangeSpec := { name := "tnumWithin", fn := fun _ => fun
  | [d1, d2, d3] => { results := [.lit (.bool false)], args := [d1, d2, d3] }
  | _ => none }
def TnumWithinWrongFalsely : Prop := tnumWithinRow.holds Try.pinned (OpenSpec.ofChange tnumWithinWrong)

/-- 'lockgatelaw03.TnumSums': WHATEVER THE INPUT: true; the input reads as it did. -/
def tnumSumsSpec : ChangeSpec := { name := "tnumSums", fn := fun _ => fun
  | [d1, d2] => { results := [.lit (.bool true)], args := [d1, d2] }
  | _ => none }
def tnumSumsRow : OpenClaim := { program := "ytkmnogcahpbdjaa", sum := "00a4990dcc2b16da570eb481039b606b8fb341fd01c3069c02864c250be3a035", func := "lockgate/lockgatelaw03.TnumSums", spec := "tnumSums", apart := false }
def TnumSumsSaid : Prop := tnumSumsRow.holds Try.pinned (OpenSpec.ofChange tnumSumsSpec)

/-- ITS FALSE NEIGHBOUR: 'it returns false'. Refute it at one input. -/
def tnumSumsWrong : ChangeSpec := { name := "tnumSums", fn := fun _ => fun
  | [d1, d2] => { results := [.lit (.bool false)], args := [d1, d2] }
  | _ => none }
def TnumSumsWrongFalsely : Prop := tnumSumsRow.holds Try.pinned (OpenSpec.ofChange tnumSumsWrong)

/-- 'lockgatelaw03.TnumSets': WHATEVER THE INPUT: true; the input reads as it did. -/
def tnumSetsSpec : ChangeSpec := { name := "tnumSets", fn := fun _ => fun
  | [d1, d2, d3] => { results := [.lit (.bool true)], args := [d1, d2, d3] }
  | _ => none }
def tnumSetsRow : OpenClaim := { program := "ytkmnogcahpbdjaa", sum := "00a4990dcc2b16da570eb481039b606b8fb341fd01c3069c02864c250be3a035", func := "lockgate/lockgatelaw03.TnumSets", spec := "tnumSets", apart := false }
def TnumSetsSaid : Prop := tnumSetsRow.holds Try.pinned (OpenSpec.ofChange tnumSetsSpec)

/-- ITS FALSE NEIGHBOUR: 'it returns false'. Refute it at one input. -/
def tnumSetsWrong : ChangeSpec := { name := "tnumSets", fn := fun _ => fun
  | [d1, d2, d3] => { results := [.lit (.bool false)], args := [d1, d2, d3] }
  | _ => none }
def TnumSetsWrongFalsely : Prop := tnumSetsRow.holds Try.pinned (OpenSpec.ofChange tnumSetsWrong)

/-- 'lockgatelaw03.TnumLattice': WHATEVER THE INPUT: true; the input reads as it did. -/
def tnumLatticeSpec : ChangeSpec := { name := "tnumLattice", fn := fun _ => fun
  | [d1, d2, d3, d4] => { results := [.lit (.bool true)], args := [d1, d2, d3, d4] }
  | _ => none }
def tnumLatticeRow : OpenClaim := { program := "ytkmnogcahpbdjaa", sum := "00a4990dcc2b16da570eb481039b606b8fb341fd01c3069c02864c250be3a035", func := "lockgate/lockgatelaw03.TnumLattice", spec := "tnumLattice", apart := false }
def TnumLatticeSaid : Prop := tnumLatticeRow.holds Try.pinned (OpenSpec.ofChange tnumLatticeSpec)

/-- ITS FALSE NEIGHBOUR: 'it returns false'. Refute it at one input. -/
def tnumLatticeWrong : ChangeSpec := { name := "tnumLattice", fn := fun _ => fun
  | [d1, d2, d3, d4] => { results := [.lit (.bool false)], args := [d1, d2, d3, d4] }
  | _ => none }
def TnumLatticeWrongFalsely : Prop := tnumLatticeRow.holds Try.pinned (OpenSpec.ofChange tnumLatticeWrong)

/-- 'lockgatelaw03.TnumMore': WHATEVER THE INPUT: true; the input reads as it did. -/
def tnumMoreSpec : ChangeSpec := { name := "tnumMore", fn := fun _ => fun
  | [d1, d2, d3, d4, d5] => { results := [.lit (.bool true)], args := [d1, d2, d3, d4, d5] }
  | _ => none }
def tnumMoreRow : OpenClaim := { program := "ytkmnogcahpbdjaa", sum := "00a4990dcc2b16da570eb481039b606b8fb341fd01c3069c02864c250be3a035", func := "lockgate/lockgatelaw03.TnumMore", spec := "tnumMore", apart := false }
def TnumMoreSaid : Prop := tnumMoreRow.holds Try.pinned (OpenSpec.ofChange tnumMoreSpec)

/-- ITS FALSE NEIGHBOUR: 'it returns false'. Refute it at one input. -/
def tnumMoreWrong : ChangeSpec := { name := "tnumMore", fn := fun _ => fun
  | [d1, d2, d3, d4, d5] => { results := [.lit (.bool false)], args := [d1, d2, d3, d4, d5] }
  | _ => none }
def TnumMoreWrongFalsely : Prop := tnumMoreRow.holds Try.pinned (OpenSpec.ofChange tnumMoreWrong)

/-- 'lockgatelaw03.TnumBits': WHATEVER THE INPUT: true; the input reads as it did. -/
def tnumBitsSpec : ChangeSpec := { name := "tnumBits", fn := fun _ => fun
  | [d1, d2, d3, d4] => { results := [.lit (.bool true)], args := [d1, d2, d3, d4] }
  | _ => none }
def tnumBitsRow : OpenClaim := { program := "ytkmnogcahpbdjaa", sum := "00a4990dcc2b16da570eb481039b606b8fb341fd01c3069c02864c250be3a035", func := "lockgate/lockgatelaw03.TnumBits", spec := "tnumBits", apart := false }
def TnumBitsSaid : Prop := tnumBitsRow.holds Try.pinned (OpenSpec.ofChange tnumBitsSpec)

/-- ITS FALSE NEIGHBOUR: 'it returns false'. Refute it at one input. -/
def tnumBitsWrong : ChangeSpec := { name := "tnumBits", fn := fun _ => fun
  | [d1, d2, d3, d4] => { results := [.lit (.bool false)], args := [d1, d2, d3, d4] }
  | _ => none }
def TnumBitsWrongFalsely : Prop := tnumBitsRow.holds Try.pinned (OpenSpec.ofChange tnumBitsWrong)

/-- 'lockgatelaw03.TnumAlone': WHATEVER THE INPUT: true; the input reads as it did. -/
def tnumAloneSpec : ChangeSpec := { name := "tnumAlone", fn := fun _ => fun
  | [d1, d2, d3] => { results := [.lit (.bool true)], args := [d1, d2, d3] }
  | _ => none }
def tnumAloneRow : OpenClaim := { program := "ytkmnogcahpbdjaa", sum := "00a4990dcc2b16da570eb481039b606b8fb341fd01c3069c02864c250be3a035", func := "lockgate/lockgatelaw03.TnumAlone", spec := "tnumAlone", apart := false }
def TnumAloneSaid : Prop := tnumAloneRow.holds Try.pinned (OpenSpec.ofChange tnumAloneSpec)

/-- ITS FALSE NEIGHBOUR: 'it returns false'. Refute it at one input. -/
def tnumAloneWrong : ChangeSpec := { name := "tnumAlone", fn := fun _ => fun
  | [d1, d2, d3] => { results := [.lit (.bool false)], args := [d1, d2, d3] }
  | _ => none }
def TnumAloneWrongFalsely : Prop := tnumAloneRow.holds Try.pinned (OpenSpec.ofChange tnumAloneWrong)

/-- 'lockgatelaw03.TnumSound': WHATEVER THE INPUT: true; the input reads as it did. -/
def tnumSoundSpec : ChangeSpec := { name := "tnumSound", fn := fun _ => fun
  | [d1, d2, d3, d4, d5] => { results := [.lit (.bool true)], args := [d1, d2, d3, d4, d5] }
  | _ => none }
def tnumSoundRow : OpenClaim := { program := "ytkmnogcahpbdjaa", sum := "00a4990dcc2b16da570eb481039b606b8fb341fd01c3069c02864c250be3a035", func := "lockgate/lockgatelaw03.TnumSound", spec := "tnumSound", apart := false }
def TnumSoundSaid : Prop := tnumSoundRow.holds Try.pinned (OpenSpec.ofChange tnumSoundSpec)

/-- ITS FALSE NEIGHBOUR: 'it returns false'. Refute it at one input. -/
def tnumSoundWrong : ChangeSpec := { name := "tnumSound", fn := fun _ => fun
  | [d1, d2, d3, d4, d5] => { results := [.lit (.bool false)], args := [d1, d2, d3, d4, d5] }
  | _ => none }
def TnumSoundWrongFalsely : Prop := tnumSoundRow.holds Try.pinned (OpenSpec.ofChange tnumSoundWrong)

/-- 'lockgatelaw03.TnumKnown': WHATEVER THE INPUT: true; the input reads as it did. -/
def tnumKnownSpec : ChangeSpec := { name := "tnumKnown", fn := fun _ => fun
  | [] => { results := [.lit (.bool true)], args := [] }
  | _ => none }
def tnumKnownRow : OpenClaim := { program := "ytkmnogcahpbdjaa", sum := "00a4990dcc2b16da570eb481039b606b8fb341fd01c3069c02864c250be3a035", func := "lockgate/lockgatelaw03.TnumKnown", spec := "tnumKnown", apart := false }
def TnumKnownSaid : Prop := tnumKnownRow.holds Try.pinned (OpenSpec.ofChange tnumKnownSpec)

/-- ITS FALSE NEIGHBOUR: 'it returns false'. Refute it at one input. -/
def tnumKnownWrong : ChangeSpec := { name := "tnumKnown", fn := fun _ => fun
  | [] => { results := [.lit (.bool false)], args := [] }
  | _ => none }
def TnumKnownWrongFalsely : Prop := tnumKnownRow.holds Try.pinned (OpenSpec.ofChange tnumKnownWrong)

/- THE SECOND FORM. 'bulk': how many values and letters a reading holds, each counted each time it is reached (what is shared counts as often as it is met; a slice's spare places count too). A statement '..UptoSaid' is the law's where the arguments, and the package variables that the reading takes, are together of bulk at most 1048576: NARROWER than '..Said'. Prove '..Said' where nothing that the law and all that it calls make is longer than what came in: it says more and counts as full. Else prove '..UptoSaid'. A law counts once. -/
mutual
def uptoBulk {H : Type} : DataW H → Nat
  | .lit (.string bytes) => bytes.length + 1
  | .lit _ => 1
  | .nil => 1
  | .ptr d => uptoBulk d + 1
  | .slice elems spare => uptoBulkAll elems + uptoBulkAll spare + 1
  | .agg parts => uptoBulkAll parts + 1
  | .iface _ d => uptoBulk d + 1
  | .map entries => uptoBulkEntries entries + 1
  | .held _ => 1
def uptoBulkAll {H : Type} : List (DataW H) → Nat
  | [] => 0
  | d :: r => uptoBulk d + uptoBulkAll r
def uptoBulkEntries {H : Type} : List (Lit × DataW H) → Nat
  | [] => 0
  | x :: r => uptoBulkEntry x + uptoBulkEntries r
def uptoBulkEntry {H : Type} : Lit × DataW H → Nat
  | (.string bytes, d) => bytes.length + uptoBulk d + 1
  | (_, d) => uptoBulk d + 1
 end
def uptoSmall : (H : Type) → List (DataW H) → Bool := fun _ ds => decide (uptoBulkAll ds ≤ 1048576)
def OpenSpec.upto (s : _root_.Go.ChangeSpec) : _root_.Go.OpenSpec := { _root_.Go.OpenSpec.ofChange s with cond := some uptoSmall }

/-- 'lockgatelaw03.TnumWithin', WHERE WHAT IT READS IS OF BULK AT MOST 1048576: true; the input reads as it did. -/
def tnumWithinUptoRow : OpenClaim := { program := "ytkmnogcahpbdjaa", sum := "00a4990dcc2b16da570eb481039b606b8fb341fd01c3069c02864c250be3a035", func := "lockgate/lockgatelaw03.TnumWithin", spec := "tnumWithin", apart := false, narrowed := true }
def TnumWithinUptoSaid : Prop := tnumWithinUptoRow.holds Try.pinned (OpenSpec.upto tnumWithinSpec)

/-- 'lockgatelaw03.TnumSums', WHERE WHAT IT READS IS OF BULK AT MOST 1048576: true; the input reads as it did. -/
def tnumSumsUptoRow : OpenClaim := { program := "ytkmnogcahpbdjaa", sum := "00a4990dcc2b16da570eb481039b606b8fb341fd01c3069c02864c250be3a035", func := "lockgate/lockgatelaw03.TnumSums", spec := "tnumSums", apart := false, narrowed := true }
def TnumSumsUptoSaid : Prop := tnumSumsUptoRow.holds Try.pinned (OpenSpec.upto tnumSumsSpec)

/-- 'lockgatelaw03.TnumSets', WHERE WHAT IT READS IS OF BULK AT MOST 1048576: true; the input reads as it did. -/
def tnumSetsUptoRow : OpenClaim := { program := "ytkmnogcahpbdjaa", sum := "00a4990dcc2b16da570eb481039b606b8fb341fd01c3069c02864c250be3a035", func := "lockgate/lockgatelaw03.TnumSets", spec := "tnumSets", apart := false, narrowed := true }
def TnumSetsUptoSaid : Prop := tnumSetsUptoRow.holds Try.pinned (OpenSpec.upto tnumSetsSpec)

/-- 'lockgatelaw03.TnumLattice', WHERE WHAT IT READS IS OF BULK AT MOST 1048576: true; the input reads as it did. -/
def tnumLatticeUptoRow : OpenClaim := { program := "ytkmnogcahpbdjaa", sum := "00a4990dcc2b16da570eb481039b606b8fb341fd01c3069c02864c250be3a035", func := "lockgate/lockgatelaw03.TnumLattice", spec := "tnumLattice", apart := false, narrowed := true }
def TnumLatticeUptoSaid : Prop := tnumLatticeUptoRow.holds Try.pinned (OpenSpec.upto tnumLatticeSpec)

/-- 'lockgatelaw03.TnumMore', WHERE WHAT IT READS IS OF BULK AT MOST 1048576: true; the input reads as it did. -/
def tnumMoreUptoRow : OpenClaim := { program := "ytkmnogcahpbdjaa", sum := "00a4990dcc2b16da570eb481039b606b8fb341fd01c3069c02864c250be3a035", func := "lockgate/lockgatelaw03.TnumMore", spec := "tnumMore", apart := false, narrowed := true }
def TnumMoreUptoSaid : Prop := tnumMoreUptoRow.holds Try.pinned (OpenSpec.upto tnumMoreSpec)

/-- 'lockgatelaw03.TnumBits', WHERE WHAT IT READS IS OF BULK AT MOST 1048576: true; the input reads as it did. -/
def tnumBitsUptoRow : OpenClaim := { program := "ytkmnogcahpbdjaa", sum := "00a4990dcc2b16da570eb481039b606b8fb341fd01c3069c02864c250be3a035", func := "lockgate/lockgatelaw03.TnumBits", spec := "tnumBits", apart := false, narrowed := true }
def TnumBitsUptoSaid : Prop := tnumBitsUptoRow.holds Try.pinned (OpenSpec.upto tnumBitsSpec)

/-- 'lockgatelaw03.TnumAlone', WHERE WHAT IT READS IS OF BULK AT MOST 1048576: true; the input reads as it did. -/
def tnumAloneUptoRow : OpenClaim := { program := "ytkmnogcahpbdjaa", sum := "00a4990dcc2b16da570eb481039b606b8fb341fd01c3069c02864c250be3a035", func := "lockgate/lockgatelaw03.TnumAlone", spec := "tnumAlone", apart := false, narrowed := true }
def TnumAloneUptoSaid : Prop := tnumAloneUptoRow.holds Try.pinned (OpenSpec.upto tnumAloneSpec)

/-- 'lockgatelaw03.TnumSound', WHERE WHAT IT READS IS OF BULK AT MOST 1048576: true; the input reads as it did. -/
def tnumSoundUptoRow : OpenClaim := { program := "ytkmnogcahpbdjaa", sum := "00a4990dcc2b16da570eb481039b606b8fb341fd01c3069c02864c250be3a035", func := "lockgate/lockgatelaw03.TnumSound", spec := "tnumSound", apart := false, narrowed := true }
def TnumSoundUptoSaid : Prop := tnumSoundUptoRow.holds Try.pinned (OpenSpec.upto tnumSoundSpec)

/-- 'lockgatelaw03.TnumKnown', WHERE WHAT IT READS IS OF BULK AT MOST 1048576: true; the input reads as it did. -/
def tnumKnownUptoRow : OpenClaim := { program := "ytkmnogcahpbdjaa", sum := "00a4990dcc2b16da570eb481039b606b8fb341fd01c3069c02864c250be3a035", func := "lockgate/lockgatelaw03.TnumKnown", spec := "tnumKnown", apart := false, narrowed := true }
def TnumKnownUptoSaid : Prop := tnumKnownUptoRow.holds Try.pinned (OpenSpec.upto tnumKnownSpec)

end Rows
end Go.Proofs.Ytkmnogcahpbdjaa
