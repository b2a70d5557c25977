/- What the package's variables are known to hold: the table of layer 18. -/
import Derived.Orders
import Derived.Below
import Derived.Laws.Rows
import Derived.WalkKit
namespace Go.Proofs.YtaplgollkkpnaaaDoor.Xc
open Go Go.RowKit
set_option linter.unusedVariables false
def row4 (a b c d : Bool) : List Value := [.bool a, .bool b, .bool c, .bool d]
/-- The cells of a variable's block. -/
def gl (n : Nat) : Option (List Value) := match n with
  | 0 => some (row4 false false false false ++ row4 false false false true ++ row4 true true false true ++ row4 false false false false ++ row4 true false false false ++ row4 true false false false ++ row4 true false true true ++ row4 false true true false ++ row4 false false true false)
  | _ + 1 => none
/-- A world in which they hold that. -/
def I (w : World) : Prop := ∀ n cs, gl n = some cs → ∀ (j : Nat) (v : Value), cs[j]? = some v → w.cell? ⟨n, j, none⟩ = some v
theorem I.below {w w' : World} (h : I w) (hb : Below w.heap.size w w') : I w' := fun n cs hg j v hv => by
  have h1 := h n cs hg j v hv
  have hn : n < w.heap.size := by
    unfold World.cell? at h1
    split at h1
    · rename_i e
      exact (Array.getElem?_eq_some_iff.1 e).1
    · cases h1
  rw [hb.cell hn]; exact h1
end Go.Proofs.YtaplgollkkpnaaaDoor.Xc
