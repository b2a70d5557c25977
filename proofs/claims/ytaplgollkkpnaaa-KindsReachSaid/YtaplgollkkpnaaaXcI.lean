/- What the package's variables are known to hold: here, nothing. -/
import Derived.Orders
import Derived.Below
import Derived.Laws.Rows
import Derived.WalkKit
namespace Go.Proofs.Ytaplgollkkpnaaa.Xc
open Go Go.RowKit
set_option linter.unusedVariables false
/-- The cells of a variable's block. -/
def gl (_ : Nat) : Option (List Value) := none
/-- A world in which they hold that. -/
def I (w : World) : Prop := ∀ n cs, gl n = some cs → ∀ (j : Nat) (v : Value), cs[j]? = some v → w.cell? ⟨n, j, none⟩ = some v
theorem I.below {w w' : World} (h : I w) (hb : Below w.heap.size w w') : I w' := fun n cs h => nomatch h
theorem I.any (w : World) : I w := fun n cs h => nomatch h
end Go.Proofs.Ytaplgollkkpnaaa.Xc
