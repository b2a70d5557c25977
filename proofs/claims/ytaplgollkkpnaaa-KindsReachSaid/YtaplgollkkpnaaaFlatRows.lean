/- A slice of flat structs, opened to its cells. -/
import Derived.Test.YtaplgollkkpnaaaFlat
import Derived.ChangeArms
import Derived.DataReads
set_option linter.unusedVariables false
set_option linter.unusedSimpArgs false
set_option linter.unusedSectionVars false
namespace Go.Proofs.Ytaplgollkkpnaaa.Flat
open Go.ChangeShapes Go.WideShapes Go.ChangeAt Go.RowKit
section
variable {H : Type} {enc : TypeId × Value → H} {P : Program} {w : World} {base : Nat} {spare : Nat → Bool} {held : Bool}
def nV : Value → Int
  | .int _ n => n
  | _ => 0
def bV : Value → Bool
  | .bool b => b
  | _ => false
/-- A slice whose elements are flat structs: the cells of each element. -/
theorem open_rows {t e : TypeId} {ks : List Leaf} {fuel : Nat} {cs : List Value} {x : DataW H × List MemPlace} (ht : P.underlying t = some (.slice e)) (hk : flatK P 12 e = some ks)
    (h : DataW.trod enc P w base spare held fuel t cs = some x) :
    cs = [.slice none 0 0] ∨ ∃ (a : Addr) (len cap : Nat) (css : List (List Value)), cs = [.slice (some a) len cap] ∧ len ≤ cap ∧ cap ≤ maxLen ∧ css.length = len ∧
      ∀ j c, css[j]? = some c → AllOk ks c ∧ ∀ i u, c[i]? = some u → w.cell? (a.add (j * P.cellsOf e + i)) = some u := by
  rcases DataW.trod_slice ht h with h0 | ⟨a, len, cap, elems, rest, n, _, rfl, _, hb, hl, hm, hlen, hel, _, _⟩
  · exact Or.inl h0.1
  right
  have each : ∀ i, i < len → ∃ c, w.cells? base (a.add (i * P.cellsOf e)) (P.cellsOf e) = some c ∧ AllOk ks c := by
    intro i hi
    have hy := hel i hi
    rw [List.getElem?_eq_getElem (by omega), Option.bind_eq_some_iff] at hy
    obtain ⟨c, hc, hx⟩ := hy
    exact ⟨c, hc, flat_ok 12 n e ks c _ hk hx⟩
  refine ⟨a, len, cap, (List.range len).map (fun i => (w.cells? base (a.add (i * P.cellsOf e)) (P.cellsOf e)).getD []), rfl, hl, hm, by simp, ?_⟩
  intro j c hj
  rw [List.getElem?_map] at hj
  by_cases hlt : j < len
  · rw [List.getElem?_range hlt] at hj
    obtain ⟨c', hc, hok⟩ := each j hlt
    simp only [Option.map_some, hc, Option.getD_some, Option.some.injEq] at hj
    subst hj
    refine ⟨hok, fun i u hu => ?_⟩
    have hh := (World.cells?_some hc).2
    have hi : i < P.cellsOf e := by have := (List.getElem?_eq_some_iff.1 hu).1; omega
    have := hh.2 i hi
    rw [hu] at this
    rw [← this]
    have e2 : (a.add (j * P.cellsOf e)).add i = a.add (j * P.cellsOf e + i) := by unfold Addr.add; by_cases h1 : j * P.cellsOf e = 0 <;> by_cases h2 : i = 0 <;> simp [h1, h2, Nat.add_assoc]
    rw [e2]
  · rw [List.getElem?_eq_none (by simp; omega)] at hj
    simp at hj
end
end Go.Proofs.Ytaplgollkkpnaaa.Flat
