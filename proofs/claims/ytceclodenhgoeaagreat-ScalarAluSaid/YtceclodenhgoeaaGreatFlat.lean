/- A struct by value, opened to its cells. -/
import Derived.WalkKit
import Derived.ProofKit
import Derived.OpenShut
import Derived.ChangeOld
import Derived.Below
import Derived.SizedLaws
set_option linter.unusedVariables false
set_option linter.unusedSimpArgs false
set_option linter.unusedSectionVars false
namespace Go.Proofs.YtceclodenhgoeaaGreat.Flat
open Go.ChangeShapes Go.WideShapes Go.ChangeAt Go.RowKit
/-! A struct by value whose cells are whole numbers and bools, however nested: opened to its cells. -/
inductive Leaf where
  | int (k : IntKind)
  | bool
def Leaf.ok : Leaf → Value → Prop
  | .int k, v => ∃ n, v = .int k n ∧ (Lit.int k n).wf = true
  | .bool, v => ∃ b, v = .bool b
def flatFs (P : Program) (r : TypeId → Option (List Leaf)) : Nat → List Field → Option (List Leaf)
  | _, [] => some []
  | o, f :: fs => match r f.type, flatFs P r (o + P.cellsOf f.type) fs with
    | some k, some ks => if f.offset = o ∧ k.length = P.cellsOf f.type then some (k ++ ks) else none
    | _, _ => none
def flatK (P : Program) : Nat → TypeId → Option (List Leaf)
  | 0, _ => none
  | d + 1, t => match P.underlying t with
    | some (.int k) => some [.int k]
    | some .bool => some [.bool]
    | some (.struct fs) => match flatFs P (flatK P d) 0 fs.toList with
      | some ks => if ks.length = P.cellsOf t then some ks else none
      | none => none
    | _ => none
def AllOk : List Leaf → List Value → Prop
  | [], [] => True
  | k :: ks, v :: vs => k.ok v ∧ AllOk ks vs
  | _, _ => False
theorem AllOk.append : ∀ {ks ks' : List Leaf} {vs vs' : List Value}, AllOk ks vs → AllOk ks' vs' → AllOk (ks ++ ks') (vs ++ vs')
  | [], _, [], _, _, h => h
  | _ :: _, _, _ :: _, _, h, h' => ⟨h.1, AllOk.append h.2 h'⟩
theorem AllOk.length : ∀ {ks : List Leaf} {vs : List Value}, AllOk ks vs → ks.length = vs.length
  | [], [], _ => rfl
  | _ :: _, _ :: _, h => by simp [AllOk.length h.2]
section
variable {H : Type} {enc : TypeId × Value → H} {P : Program} {w : World} {base : Nat} {spare : Nat → Bool} {held : Bool}
theorem flatFs_ok {d n : Nat} (hr : ∀ t ks cs x, flatK P d t = some ks → DataW.trod enc P w base spare held n t cs = some x → AllOk ks cs) {cs : List Value} :
    ∀ (fs : List Field) (o : Nat) (ks : List Leaf), flatFs P (flatK P d) o fs = some ks → o + ks.length = cs.length →
      (∀ f ∈ fs, ∃ x, DataW.trod enc P w base spare held n f.type ((cs.drop f.offset).take (P.cellsOf f.type)) = some x) → AllOk ks (cs.drop o)
  | [], o, ks, h, hl, _ => by
    simp [flatFs] at h; subst h
    rw [List.drop_of_length_le (by simp at hl; omega)]; trivial
  | f :: fs, o, ks, h, hl, hx => by
    unfold flatFs at h
    split at h
    · rename_i k ks' h1 h2
      split at h
      · rename_i hc
        obtain ⟨ho, hk⟩ := hc
        injection h with h; subst h
        simp only [List.length_append] at hl
        obtain ⟨x, hx0⟩ := hx f (by simp)
        have a1 := hr _ _ _ _ h1 hx0
        have a2 := flatFs_ok hr fs _ _ h2 (by omega) (fun g hg => hx g (by simp [hg]))
        have e : cs.drop o = (cs.drop f.offset).take (P.cellsOf f.type) ++ cs.drop (o + P.cellsOf f.type) := by
          rw [ho, ← List.drop_drop, List.take_append_drop]
        rw [e]; exact a1.append a2
      · cases h
    · cases h
theorem flat_ok : ∀ (d n : Nat) (t : TypeId) (ks : List Leaf) (cs : List Value) (x : DataW H × List MemPlace), flatK P d t = some ks → DataW.trod enc P w base spare held n t cs = some x → AllOk ks cs
  | 0, _, _, _, _, _, h, _ => by simp [flatK] at h
  | d + 1, n, t, ks, cs, x, h, hx => by
    unfold flatK at h
    split at h
    · rename_i k ht
      injection h with h; subst h
      obtain ⟨m, rfl, _, hw⟩ := DataW.trod_int ht hx
      exact ⟨⟨m, rfl, hw⟩, trivial⟩
    · rename_i ht
      injection h with h; subst h
      obtain ⟨b, rfl, _⟩ := DataW.trod_bool ht hx
      exact ⟨⟨b, rfl⟩, trivial⟩
    · rename_i fs ht
      split at h
      · rename_i ks' hf
        split at h
        · rename_i hl
          obtain rfl : ks' = ks := by simpa using h
          obtain ⟨xs, m, _, _, hlen, hsz, hg⟩ := DataW.trod_struct ht hx
          have hcl : 0 + ks'.length = cs.length := by omega
          have := flatFs_ok (fun t ks cs x => flat_ok d m t ks cs x) fs.toList 0 ks' hf hcl (fun f hm => by
            obtain ⟨i, hi, rfl⟩ := List.getElem_of_mem hm
            have hi' : i < fs.size := by simpa using hi
            have := hg i fs[i] (by simp [hi'])
            exact ⟨xs[i]'(by omega), by rw [show fs.toList[i] = fs[i] by simp, this]; simp [show i < xs.length by omega]⟩)
          simpa using this
        · cases h
      · cases h
    · cases h
theorem open_flat {r : Reach} {b0 : Nat} {t : TypeId} {ks : List Leaf} {fs : Array Field} {v : Value} {d : DataW H} {p : List MemPlace} (hk : flatK P 12 t = some ks) (hs : P.underlying t = some (.struct fs))
    (hv : Value.okWide P w r b0 t v) (h : DataW.Trod enc P w base spare held t v d p) : ∃ cs : List Value, v = .agg cs.toArray ∧ AllOk ks cs := by
  obtain ⟨cs, rfl, hsz⟩ := okWide_struct hs hv
  obtain ⟨n, hn⟩ := h
  exact ⟨cs.toList, by simp, flat_ok 12 n t ks _ _ hk (by simpa [Value.cells] using hn)⟩
theorem ok_int {k : IntKind} {ks : List Leaf} {vs : List Value} (h : AllOk (.int k :: ks) vs) : ∃ n ws, vs = .int k n :: ws ∧ (Lit.int k n).wf = true ∧ AllOk ks ws := by
  match vs, h with
  | _ :: ws, ⟨⟨n, rfl, hw⟩, h'⟩ => exact ⟨n, ws, rfl, hw, h'⟩
theorem ok_nil {vs : List Value} (h : AllOk [] vs) : vs = [] := by
  match vs, h with
  | [], _ => rfl
end
end Go.Proofs.YtceclodenhgoeaaGreat.Flat
