/- Layer 2: what may be wrong with an instruction. -/
import Derived.Test.YticijjonimiooaaC02
set_option linter.unusedVariables false
set_option linter.unusedSimpArgs false
set_option linter.unusedSectionVars false
namespace Go.Proofs.Yticijjonimiooaa.C02
open Go.RowKit Go.Proofs.YticijjonimiooaaW.PrintWords Go.Proofs.YticijjonimiooaaW.PrintLast Go.Proofs.YticijjonimiooaaW.PrintMore Go.Proofs.Yticijjonimiooaa.PA Go.Proofs.Yticijjonimiooaa.Bv
/-- fields that have no meaning. -/
def F (D S O I : Bool) (d s o i : Int) : Prop := (D = false ∧ d ≠ 0) ∨ (S = false ∧ s ≠ 0) ∨ (O = false ∧ o ≠ 0) ∨ (I = false ∧ i ≠ 0)
instance (D S O I : Bool) (d s o i : Int) : Decidable (F D S O I d s o i) := by unfold F; infer_instance
def t24 (op s i : Int) : Int := if op = 24 ∧ (s > 1 ∨ (s = 1 ∧ (i < 1 ∨ i > 8))) then 6 else 0
def tl (op s i : Int) : Int := if (op = 212 ∨ op = 220) ∧ i ≠ 16 ∧ i ≠ 32 ∧ i ≠ 64 then 6 else t24 op s i
def vK (D S O I w : Bool) (op d s o i : Int) : Int :=
  if d < 0 ∨ d > 10 ∨ s < 0 ∨ s > 10 ∨ (w = true ∧ d = 10) then 5
  else if o < -32768 ∨ o > 32767 ∨ (op ≠ 24 ∧ (i < -2147483648 ∨ i > 2147483647)) then 15
  else if F D S O I d s o i then 6 else tl op s i
end Go.Proofs.Yticijjonimiooaa.C02
