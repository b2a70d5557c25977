/- Layer 6: where each instruction begins, and where it jumps to. -/
import Derived.Test.YtkcneaaoghgllaaBit
import Derived.Test.YtkcneaaoghgllaaPA3
import Derived.Test.YtkcneaaoghgllaaPA4
set_option linter.unusedVariables false
set_option linter.unusedSimpArgs false
set_option linter.unusedSectionVars false
namespace Go.Proofs.Ytkcneaaoghgllaa.C06
open Go.RowKit Go.Proofs.YtkcneaaoghgllaaW.PrintWords Go.Proofs.YtkcneaaoghgllaaW.PrintLast Go.Proofs.YtkcneaaoghgllaaW.PrintMore Go.Proofs.Ytkcneaaoghgllaa.PA Go.Proofs.Ytkcneaaoghgllaa.Bv
theorem w64u {n : Nat} (h : n ≤ 100000) : wrap64 ((n : Int) + 1) = ((n + 1 : Nat) : Int) := by unfold wrap64; omega
theorem rdT (t : List S42) (i : Nat) (h : i < t.length) : rd_T42 t (i : Int) = t[i] := by
  unfold rd_T42
  rw [Int.toNat_natCast, List.getD_eq_getElem?_getD, List.getElem?_eq_getElem h]; rfl
theorem rdI (t : List Int) (i : Nat) (h : i < t.length) : rd t (i : Int) = t[i] := by
  unfold rd
  rw [Int.toNat_natCast, List.getD_eq_getElem?_getD, List.getElem?_eq_getElem h]; rfl
theorem rdB (t : List Bool) (i : Nat) (h : i < t.length) : rdOf false t (i : Int) = t[i] := by
  unfold rdOf
  rw [Int.toNat_natCast, List.getD_eq_getElem?_getD, List.getElem?_eq_getElem h]; rfl
/-- how many slots an instruction has. -/
def sz (x : S42) : Nat := if x.f0 = 24 then 2 else 1
theorem size_f (x : S42) : insn_Size.f x.f0 x.f1 x.f2 x.f3 x.f4 = some (sz x : Int) := by
  unfold insn_Size.f sz
  by_cases h : x.f0 = 24
  · rw [if_pos h, if_pos h]; rfl
  · rw [if_neg h, if_neg h]; rfl
theorem sz12 (x : S42) : sz x = 1 ∨ sz x = 2 := by unfold sz; split <;> omega
/-- the slot at which the i-th instruction begins. -/
def slot (l : List S42) : Nat → Nat
  | 0 => 0
  | i + 1 => slot l i + sz (l.getD i ⟨0, 0, 0, 0, 0⟩)
theorem slot_le (l : List S42) (i : Nat) : slot l i ≤ 2 * i := by
  induction i with
  | zero => exact Nat.le_refl _
  | succ i ih =>
    have := sz12 (l.getD i ⟨0, 0, 0, 0, 0⟩)
    rw [slot]; omega
theorem slot_ge (l : List S42) (i : Nat) : i ≤ slot l i := by
  induction i with
  | zero => exact Nat.le_refl _
  | succ i ih =>
    have := sz12 (l.getD i ⟨0, 0, 0, 0, 0⟩)
    rw [slot]; omega
theorem slot_succ (l : List S42) (i : Nat) (h : i < l.length) : slot l (i + 1) = slot l i + sz l[i] := by
  rw [slot, List.getD_eq_getElem?_getD, List.getElem?_eq_getElem h]; rfl
theorem slot_cons (x : S42) (l : List S42) (i : Nat) : slot (x :: l) (i + 1) = sz x + slot l i := by
  induction i with
  | zero => rw [slot, slot, slot]; simp
  | succ i ih => rw [slot, ih, slot, List.getD_cons_succ]; omega
theorem slot_lt (l : List S42) {i j : Nat} (h : i < j) : slot l i < slot l j := by
  induction j with
  | zero => omega
  | succ j ih =>
    have := sz12 (l.getD j ⟨0, 0, 0, 0, 0⟩)
    rw [slot]
    by_cases e : i = j
    · subst e; omega
    · have := ih (by omega); omega
theorem slot_inj (l : List S42) {i j : Nat} (h : slot l i = slot l j) : i = j := by
  rcases Nat.lt_trichotomy i j with a | a | a
  · have := slot_lt l a; omega
  · exact a
  · have := slot_lt l a; omega
/-- which instruction begins at each slot. -/
def pl : Nat → List S42 → List Int
  | _, [] => []
  | i, x :: xs => (if x.f0 = 24 then [(i : Int), -1] else [(i : Int)]) ++ pl (i + 1) xs
theorem pl_len (l : List S42) : ∀ i, (pl i l).length = slot l l.length := by
  induction l with
  | nil => intro i; rfl
  | cons x xs ih =>
    intro i
    rw [pl, List.length_append, ih, List.length_cons, slot_cons, sz]
    by_cases h : x.f0 = 24
    · rw [if_pos h, if_pos h]; rfl
    · rw [if_neg h, if_neg h]; rfl
theorem pl_at (l : List S42) : ∀ (i t : Nat), t < slot l l.length → (∃ k, k < l.length ∧ slot l k = t ∧ (pl i l)[t]? = some ((i + k : Nat) : Int)) ∨ ((∀ k, k < l.length → slot l k ≠ t) ∧ (pl i l)[t]? = some (-1)) := by
  induction l with
  | nil => intro i t h; exact absurd h (by simp [slot])
  | cons x xs ih =>
    intro i t h
    rw [List.length_cons, slot_cons] at h
    have key : ∀ t', t' < slot xs xs.length → t = sz x + t' → (pl i (x :: xs))[t]? = (pl (i + 1) xs)[t']? → (∃ k, k < (x :: xs).length ∧ slot (x :: xs) k = t ∧ (pl i (x :: xs))[t]? = some ((i + k : Nat) : Int)) ∨ ((∀ k, k < (x :: xs).length → slot (x :: xs) k ≠ t) ∧ (pl i (x :: xs))[t]? = some (-1)) := by
      intro t' ht' he hp
      rcases ih (i + 1) t' ht' with ⟨k, hk, hs, hv⟩ | ⟨hk, hv⟩
      · left
        refine ⟨k + 1, by rw [List.length_cons]; omega, by rw [slot_cons, hs, he], ?_⟩
        rw [hp, hv]; congr 2; omega
      · right
        refine ⟨fun k hk2 => ?_, by rw [hp, hv]⟩
        cases k with
        | zero => have := sz12 x; rw [slot]; omega
        | succ k => rw [slot_cons]; have := hk k (by rw [List.length_cons] at hk2; omega); omega
    have hz := sz12 x
    by_cases h0 : t = 0
    · subst h0
      left
      refine ⟨0, by rw [List.length_cons]; omega, rfl, ?_⟩
      rw [pl]; by_cases hx : x.f0 = 24
      · rw [if_pos hx]; rfl
      · rw [if_neg hx]; rfl
    · by_cases hx : x.f0 = 24
      · have hs : sz x = 2 := by unfold sz; rw [if_pos hx]
        by_cases h1 : t = 1
        · subst h1
          right
          refine ⟨fun k hk => ?_, by rw [pl, if_pos hx]; rfl⟩
          cases k with
          | zero => rw [slot]; omega
          | succ k => rw [slot_cons]; omega
        · refine key (t - 2) (by omega) (by omega) ?_
          rw [pl, if_pos hx, List.getElem?_append_right (by simp; omega)]; rfl
      · have hs : sz x = 1 := by unfold sz; rw [if_neg hx]
        refine key (t - 1) (by omega) (by omega) ?_
        rw [pl, if_neg hx, List.getElem?_append_right (by simp; omega)]; rfl
theorem places_l (l : List S42) (hl : l.length ≤ 1000) (d : Nat) : ∀ (k i : Nat) (acc : List Int), i + d = l.length → acc.length ≤ 2 * i → 4 * d < k → flow_places.l0 k acc l (l.length : Int) (i : Int) = some (acc ++ pl i (l.drop i)) := by
  induction d with
  | zero =>
    intro k i acc hi ha hk
    obtain ⟨k, rfl⟩ : ∃ m, k = m + 1 := ⟨k - 1, by omega⟩
    rw [flow_places.l0, List.drop_of_length_le (by omega), pl, List.append_nil]
    exact ife (by omega) rfl
  | succ d ih =>
    intro k i acc hi ha hk
    obtain ⟨k, rfl⟩ : ∃ m, k = m + 4 := ⟨k - 4, by omega⟩
    have hlt : i < l.length := by omega
    rw [flow_places.l0, rdT l i hlt, List.drop_eq_getElem_cons hlt, pl]
    refine ift (by omega) (ift (by omega) (ift (by omega) (ift (by omega) (bs (size_f _) ?_))))
    by_cases hx : l[i].f0 = 24
    · have hs : sz l[i] = 2 := by unfold sz; rw [if_pos hx]
      rw [flow_places.l1, hs]
      refine ift (by decide) (ift (by rw [List.length_append]; simp; omega) ?_)
      rw [show wrap64 (((2 : Nat) : Int) - 1) = 1 by unfold wrap64; omega, flow_places.l1, w64u (by omega)]
      refine ife (by decide) ?_
      rw [ih (k + 1) (i + 1) _ (by omega) (by simp; omega) (by omega), if_pos hx]; simp
    · have hs : sz l[i] = 1 := by unfold sz; rw [if_neg hx]
      rw [flow_places.l1, hs, w64u (by omega)]
      refine ife (by decide) ?_
      rw [ih (k + 2) (i + 1) _ (by omega) (by simp; omega) (by omega), if_neg hx]; simp
theorem places_f (k : Nat) (l : List S42) (hl : l.length ≤ 1000) (hk : 4 * l.length < k) : flow_places.f k l = some (pl 0 l) := by
  have := places_l l hl l.length k 0 [] (by omega) (by simp) hk
  unfold flow_places.f
  simpa using this
end Go.Proofs.Ytkcneaaoghgllaa.C06
