/- Layer 2: what the statements share: lists held against one another, copied, lent, written over. -/
import Derived.Test.YticijjonimiooaaC02x
import Derived.Test.YticijjonimiooaaPA11
import Derived.Test.YticijjonimiooaaPA12
import Derived.Test.YticijjonimiooaaPA13
set_option linter.unusedVariables false
set_option linter.unusedSimpArgs false
set_option linter.unusedSectionVars false
namespace Go.Proofs.Yticijjonimiooaa.C02
open Go.RowKit Go.Proofs.YticijjonimiooaaW.PrintWords Go.Proofs.YticijjonimiooaaW.PrintLast Go.Proofs.YticijjonimiooaaW.PrintMore Go.Proofs.Yticijjonimiooaa.PA Go.Proofs.Yticijjonimiooaa.Bv
theorem w64u {n : Nat} (h : n ≤ 100000) : wrap64 ((n : Int) + 1) = ((n + 1 : Nat) : Int) := by unfold wrap64; omega
theorem rdT (t : List S40) (i : Nat) (h : i < t.length) : rd_T40 t (i : Int) = t[i] := by
  unfold rd_T40
  rw [Int.toNat_natCast, List.getD_eq_getElem?_getD, List.getElem?_eq_getElem h]; rfl
theorem rdI (t : List Int) (i : Nat) (h : i < t.length) : rd t (i : Int) = t[i] := by
  unfold rd
  rw [Int.toNat_natCast, List.getD_eq_getElem?_getD, List.getElem?_eq_getElem h]; rfl
theorem sameB_l (l : List Int) (hl : l.length ≤ 100000) (d : Nat) : ∀ (k i : Nat), i + d = l.length → d < k → lockgatekit_SameBytes.l0 k l l (i : Int) = some true := by
  induction d with
  | zero =>
    intro k i hi hk
    obtain ⟨k, rfl⟩ : ∃ m, k = m + 1 := ⟨k - 1, by omega⟩
    rw [lockgatekit_SameBytes.l0]; exact ife (by omega) rfl
  | succ d ih =>
    intro k i hi hk
    obtain ⟨k, rfl⟩ : ∃ m, k = m + 1 := ⟨k - 1, by omega⟩
    rw [lockgatekit_SameBytes.l0, w64u (by omega)]
    exact ift (by omega) (ift (by omega) (ift (by omega) (ift rfl (ih k (i + 1) (by omega) (by omega)))))
theorem sameB (k : Nat) (l : List Int) (hl : l.length ≤ 100000) (hk : l.length < k) : lockgatekit_SameBytes.f k l l = some true := by
  unfold lockgatekit_SameBytes.f
  exact ift rfl (sameB_l l hl l.length k 0 (by omega) hk)
theorem ne5 (a b c d e : Int) : ¬ ((!(a == a) || (!(b == b) || (!(c == c) || (!(d == d) || (!(e == e)))))) = true) := by
  rw [beq_self_eq_true, beq_self_eq_true, beq_self_eq_true, beq_self_eq_true, beq_self_eq_true]; decide
theorem sameT_l (l : List S40) (hl : l.length ≤ 100000) (d : Nat) : ∀ (k i : Nat), i + d = l.length → d < k → lockgatekit_SameInsns.l0 k l l (i : Int) = some true := by
  induction d with
  | zero =>
    intro k i hi hk
    obtain ⟨k, rfl⟩ : ∃ m, k = m + 1 := ⟨k - 1, by omega⟩
    rw [lockgatekit_SameInsns.l0]; exact ife (by omega) rfl
  | succ d ih =>
    intro k i hi hk
    obtain ⟨k, rfl⟩ : ∃ m, k = m + 1 := ⟨k - 1, by omega⟩
    rw [lockgatekit_SameInsns.l0, w64u (by omega)]
    exact ift (by omega) (ift (by omega) (ift (by omega) (ife (ne5 _ _ _ _ _) (ih k (i + 1) (by omega) (by omega)))))
theorem sameT (k : Nat) (l : List S40) (hl : l.length ≤ 100000) (hk : l.length < k) : lockgatekit_SameInsns.f k l l = some true := by
  unfold lockgatekit_SameInsns.f
  exact ift rfl (sameT_l l hl l.length k 0 (by omega) hk)
theorem take_succ' {α : Type} (l : List α) (i : Nat) (h : i < l.length) : l.take i ++ [l[i]] = l.take (i + 1) := by
  rw [List.take_add_one, List.getElem?_eq_getElem h]; rfl
theorem copyT_l (l : List S40) (hl : l.length ≤ 100000) (d : Nat) : ∀ (k i : Nat), i + d = l.length → d < k → lockgatekit_CopyInsns.l0 k l (l.take i) (i : Int) = some l := by
  induction d with
  | zero =>
    intro k i hi hk
    obtain ⟨k, rfl⟩ : ∃ m, k = m + 1 := ⟨k - 1, by omega⟩
    rw [lockgatekit_CopyInsns.l0, List.take_of_length_le (by omega)]; exact ife (by omega) rfl
  | succ d ih =>
    intro k i hi hk
    obtain ⟨k, rfl⟩ : ∃ m, k = m + 1 := ⟨k - 1, by omega⟩
    rw [lockgatekit_CopyInsns.l0, w64u (by omega), rdT l i (by omega)]
    have e : l.take i ++ [(⟨(l[i]'(by omega)).f0, (l[i]'(by omega)).f1, (l[i]'(by omega)).f2, (l[i]'(by omega)).f3, (l[i]'(by omega)).f4⟩ : S40)] = l.take (i + 1) := take_succ' l i (by omega)
    rw [e]
    refine ift (by omega) (ift (by omega) (ift ?_ (ih k (i + 1) (by omega) (by omega))))
    rw [List.length_take]; omega
theorem copyT (k : Nat) (l : List S40) (hl : l.length ≤ 100000) (hk : l.length < k) : lockgatekit_CopyInsns.f k l = some l := by
  unfold lockgatekit_CopyInsns.f
  exact copyT_l l hl l.length k 0 (by omega) hk
def mk (i : Nat) : S40 := ⟨250 + i, 0, 0, 0, 77 * i⟩
def marks : List S40 := [mk 0, mk 1, mk 2, mk 3, mk 4]
theorem mark_f (i : Nat) (h : i ≤ 1000) : lockgatekit_markInsns.f (i : Int) = some ((mk i).f0, (mk i).f1, (mk i).f2, (mk i).f3, (mk i).f4) := by
  unfold lockgatekit_markInsns.f mk
  rw [w64k (n := 250 + (i : Int)) (by omega)]
  have : wrap64 (77 * (i : Int)) = 77 * (i : Int) := by unfold wrap64; omega
  rw [this]
theorem lent_l (acc : List S40) (hl : acc.length ≤ 1000) (d : Nat) : ∀ (k i : Nat), i + d = 5 → d < k → lockgatekit_LentInsns.l0 k (acc ++ marks.take i) (i : Int) = some (acc ++ marks) := by
  have hm : marks.length = 5 := rfl
  induction d with
  | zero =>
    intro k i hi hk
    obtain ⟨k, rfl⟩ : ∃ m, k = m + 1 := ⟨k - 1, by omega⟩
    rw [lockgatekit_LentInsns.l0, List.take_of_length_le (by omega)]; exact ife (by omega) rfl
  | succ d ih =>
    intro k i hi hk
    obtain ⟨k, rfl⟩ : ∃ m, k = m + 1 := ⟨k - 1, by omega⟩
    rw [lockgatekit_LentInsns.l0, w64u (by omega)]
    refine ift (by omega) (bs (mark_f i (by omega)) (ift ?_ ?_))
    · rw [List.length_append, List.length_take]; omega
    · have hmi : marks[i]'(by omega) = mk i := by
        have : i = 0 ∨ i = 1 ∨ i = 2 ∨ i = 3 ∨ i = 4 := by omega
        rcases this with rfl | rfl | rfl | rfl | rfl <;> rfl
      have e : acc ++ marks.take i ++ [(⟨(mk i).f0, (mk i).f1, (mk i).f2, (mk i).f3, (mk i).f4⟩ : S40)] = acc ++ marks.take (i + 1) := by
        rw [List.append_assoc, ← take_succ' marks i (by omega), hmi]
      exact (congrArg (fun z => lockgatekit_LentInsns.l0 k z ((i + 1 : Nat) : Int)) e).trans (ih k (i + 1) (by omega) (by omega))
theorem lent (k : Nat) (l : List S40) (hl : l.length ≤ 1000) (hk : l.length + 10 < k) : lockgatekit_LentInsns.f k l = some (l ++ marks) := by
  unfold lockgatekit_LentInsns.f
  refine bs (copyT k l (by omega) (by omega)) ?_
  have := lent_l l hl 5 k 0 (by omega) (by omega)
  simpa using this
theorem kept_l (l : List S40) (hl : l.length ≤ 1000) (d : Nat) : ∀ (k i : Nat), i + d = 5 → d < k → lockgatekit_KeptInsns.l0 k (l ++ marks) l (i : Int) = some true := by
  have hm : marks.length = 5 := rfl
  induction d with
  | zero =>
    intro k i hi hk
    obtain ⟨k, rfl⟩ : ∃ m, k = m + 1 := ⟨k - 1, by omega⟩
    rw [lockgatekit_KeptInsns.l0]; exact ife (by omega) rfl
  | succ d ih =>
    intro k i hi hk
    obtain ⟨k, rfl⟩ : ∃ m, k = m + 1 := ⟨k - 1, by omega⟩
    have e1 : wrap64 ((l.length : Int) + (i : Int)) = ((l.length + i : Nat) : Int) := by unfold wrap64; omega
    have hmi : marks[i]'(by omega) = mk i := by
      have : i = 0 ∨ i = 1 ∨ i = 2 ∨ i = 3 ∨ i = 4 := by omega
      rcases this with rfl | rfl | rfl | rfl | rfl <;> rfl
    have e2 : rd_T40 (l ++ marks) ((l.length + i : Nat) : Int) = mk i := by
      rw [rdT _ _ (by rw [List.length_append]; omega), List.getElem_append_right (by omega)]
      simpa using hmi
    rw [lockgatekit_KeptInsns.l0, e1, e2, w64u (by omega)]
    refine ift (by omega) (ift (by omega) (ift ?_ (bs (mark_f i (by omega)) (ife (ne5 _ _ _ _ _) (ih k (i + 1) (by omega) (by omega))))))
    rw [List.length_append]; omega
theorem kept (k : Nat) (l : List S40) (hl : l.length ≤ 1000) (hk : l.length + 20 < k) : lockgatekit_KeptInsns.f k (l ++ marks) l = some true := by
  have hm : marks.length = 5 := rfl
  unfold lockgatekit_KeptInsns.f
  have e1 : wrap64 ((l.length : Int) + 5) = ((l.length + 5 : Nat) : Int) := by unfold wrap64; omega
  have e2 : (l ++ marks).take ((l.length : Int)).toNat = l := by rw [Int.toNat_natCast, List.take_left]
  rw [e1, e2]
  refine ift (by rw [List.length_append]; omega) (ift (by omega) (ift (by rw [List.length_append]; omega) (bs (sameT k l (by omega) (by omega)) ?_)))
  obtain ⟨k, rfl⟩ : ∃ m, k = m + 1 := ⟨k - 1, by omega⟩
  rw [lockgatekit_KeptInsns.j0]
  exact ife nt (kept_l l hl 5 k 0 (by omega) (by omega))
theorem spoil_l (d : Nat) : ∀ (k i : Nat) (l : List Int), l.length ≤ 100000 → i + d = l.length → d < k → ∃ r, lockgatekit_SpoilBytes.l0 k l (i : Int) = some r := by
  induction d with
  | zero =>
    intro k i l hl hi hk
    obtain ⟨k, rfl⟩ : ∃ m, k = m + 1 := ⟨k - 1, by omega⟩
    rw [lockgatekit_SpoilBytes.l0]; exact ⟨l, ife (by omega) rfl⟩
  | succ d ih =>
    intro k i l hl hi hk
    obtain ⟨k, rfl⟩ : ∃ m, k = m + 1 := ⟨k - 1, by omega⟩
    rw [lockgatekit_SpoilBytes.l0, w64u (by omega)]
    obtain ⟨r, hr⟩ := ih k (i + 1) (l.set ((i : Int)).toNat ((wrap64 (201 + (wrap64 (7 * (wrap64 ((i : Int) + 7)))))) % 256)) (by rw [List.length_set]; omega) (by rw [List.length_set]; omega) (by omega)
    exact ⟨r, ift (by omega) (bs rfl (ift (by omega) hr))⟩
theorem spoil (k : Nat) (l : List Int) (hl : l.length ≤ 100000) (hk : l.length < k) : ∃ r, lockgatekit_SpoilBytes.f k l = some r := spoil_l l.length k 0 l hl (by omega) hk
end Go.Proofs.Yticijjonimiooaa.C02
