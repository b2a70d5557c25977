/- Layer 6: what the laws ask of a program, and where each instruction begins. -/
import Derived.Test.YtkcneaaoghgllaaC06t
import Derived.Test.YtkcneaaoghgllaaPA17
import Derived.Test.YtkcneaaoghgllaaPA18
import Derived.Test.YtkcneaaoghgllaaPA19
set_option linter.unusedVariables false
set_option linter.unusedSimpArgs false
set_option linter.unusedSectionVars false
namespace Go.Proofs.Ytkcneaaoghgllaa.C06
open Go.RowKit Go.Proofs.YtkcneaaoghgllaaW.PrintWords Go.Proofs.YtkcneaaoghgllaaW.PrintLast Go.Proofs.YtkcneaaoghgllaaW.PrintMore Go.Proofs.Ytkcneaaoghgllaa.PA Go.Proofs.Ytkcneaaoghgllaa.Bv
set_option maxRecDepth 100000 in
theorem works60 : lockgatelaw06_works.f 60 = some true := by decide +kernel
theorem works_f (k : Nat) (hk : 60 ≤ k) : lockgatelaw06_works.f k = some true := at_rounds lockgatelaw06_works.mono hk works60
def okx (x : S42) : Bool := decide (0 ≤ x.f0 ∧ x.f0 ≤ 255 ∧ -32768 ≤ x.f3 ∧ x.f3 ≤ 32767)
/-- what the laws ask: operations of a byte, distances of 16 bits, at most 400 instructions. -/
def R (l : List S42) : Bool := if l.all okx = true then decide (l.length ≤ 400) else false
theorem right_l (l : List S42) (hl : l.length ≤ 9223372036854775807) (d : Nat) : ∀ (k i : Nat), i + d = l.length → d < k → lockgatelaw06_right.l0 k l (i : Int) = some (if (l.drop i).all okx = true then decide (l.length ≤ 400) else false) := by
  induction d with
  | zero =>
    intro k i hi hk
    obtain ⟨k, rfl⟩ : ∃ m, k = m + 1 := ⟨k - 1, by omega⟩
    rw [lockgatelaw06_right.l0, List.drop_of_length_le (by omega), List.all_nil, if_pos rfl]
    refine ife (by omega) ?_
    congr 1
    exact decide_eq_decide.mpr (by omega)
  | succ d ih =>
    intro k i hi hk
    obtain ⟨k, rfl⟩ : ∃ m, k = m + 1 := ⟨k - 1, by omega⟩
    have hlt : i < l.length := by omega
    have e : wrap64 ((i : Int) + 1) = ((i + 1 : Nat) : Int) := by unfold wrap64; omega
    rw [lockgatelaw06_right.l0, rdT l i hlt, List.drop_eq_getElem_cons hlt, List.all_cons, e, ih k (i + 1) (by omega) (by omega)]
    refine ift (by omega) (ift (by omega) ?_)
    by_cases h : 0 ≤ l[i].f0 ∧ l[i].f0 ≤ 255 ∧ -32768 ≤ l[i].f3 ∧ l[i].f3 ≤ 32767
    · have ho : okx l[i] = true := decide_eq_true h
      rw [ho, Bool.true_and]
      exact ife (by omega) (ife (by omega) (ife (by omega) (ife (by omega) rfl)))
    · have ho : okx l[i] = false := decide_eq_false h
      rw [ho, Bool.false_and, if_neg nt]
      by_cases a : l[i].f0 < 0
      · exact ift a rfl
      · refine ife a ?_
        by_cases b : l[i].f0 > 255
        · exact ift b rfl
        · refine ife b ?_
          by_cases c : l[i].f3 < -32768
          · exact ift c rfl
          · exact ife c (ift (by omega) rfl)
theorem right_f (k : Nat) (l : List S42) (hl : l.length ≤ 9223372036854775807) (hk : l.length < k) : lockgatelaw06_right.f k l = some (R l) := by
  have := right_l l hl l.length k 0 (by omega) hk
  unfold lockgatelaw06_right.f R
  simpa using this
theorem R_all {l : List S42} (h : R l = true) : (∀ x, x ∈ l → 0 ≤ x.f0 ∧ x.f0 ≤ 255) ∧ offs l ∧ l.length ≤ 400 := by
  unfold R at h
  by_cases ha : l.all okx = true
  · rw [if_pos ha] at h
    have hx := fun x hx => of_decide_eq_true ((List.all_eq_true.mp ha) x hx)
    exact ⟨fun x m => ⟨(hx x m).1, (hx x m).2.1⟩, fun x m => (hx x m).2.2, of_decide_eq_true h⟩
  · rw [if_neg ha] at h; exact absurd h nt
theorem slots_l (l : List S42) (hl : l.length ≤ 1000) (d : Nat) : ∀ (k i : Nat), i + d = l.length → d < k → lockgatelaw06_slots.l0 k l ((List.range (i + 1)).map (fun j => (slot l j : Int))) (i : Int) = some ((List.range (l.length + 1)).map (fun j => (slot l j : Int))) := by
  induction d with
  | zero =>
    intro k i hi hk
    obtain ⟨k, rfl⟩ : ∃ m, k = m + 1 := ⟨k - 1, by omega⟩
    obtain rfl : i = l.length := by omega
    rw [lockgatelaw06_slots.l0]
    exact ife (by omega) rfl
  | succ d ih =>
    intro k i hi hk
    obtain ⟨k, rfl⟩ : ∃ m, k = m + 1 := ⟨k - 1, by omega⟩
    have hlt : i < l.length := by omega
    have hs := slot_succ l i hlt
    have hb := slot_le l (i + 1)
    have hr : rd ((List.range (i + 1)).map (fun j => (slot l j : Int))) (i : Int) = (slot l i : Int) := by rw [rdI _ _ (by simp), List.getElem_map, List.getElem_range]
    have e : wrap64 ((slot l i : Int) + (sz l[i] : Int)) = (slot l (i + 1) : Int) := by unfold wrap64; omega
    have ea : (List.range (i + 1)).map (fun j => (slot l j : Int)) ++ [(slot l (i + 1) : Int)] = (List.range (i + 1 + 1)).map (fun j => (slot l j : Int)) := by rw [List.range_succ (n := i + 1), List.map_append]; rfl
    rw [lockgatelaw06_slots.l0, rdT l i hlt, hr, w64u (by omega)]
    refine ift (by omega) (ift (by omega) (ift (by simp; omega) (bs (size_f _) (ift (by simp; omega) ?_))))
    rw [e, ea]
    exact ih k (i + 1) (by omega) (by omega)
theorem slots_f (k : Nat) (l : List S42) (hl : l.length ≤ 1000) (hk : l.length < k) : lockgatelaw06_slots.f k l = some ((List.range (l.length + 1)).map (fun j => (slot l j : Int))) := slots_l l hl l.length k 0 (by omega) hk
theorem ljumps_f (x : S42) : lockgatelaw06_jumps.f x.f0 x.f1 x.f2 x.f3 x.f4 = some (J x) := by
  unfold lockgatelaw06_jumps.f J
  split
  · split <;> rfl
  · split
    · split <;> rfl
    · rfl
/-- what is known of a program that is taken. -/
structure Fine (l : List S42) : Prop where
  pos : 0 < l.length
  le : l.length ≤ 256
  ok : ∀ i, i < l.length → bad l i = false
  fin : ends l = true
theorem tg_cases (l : List S42) : (Fine l ∧ tg l = ((List.range l.length).map (tt l), 0)) ∨ ((tg l).2 ≠ 0 ∧ (tg l).1 = [] ∧ ((tg l).2 = 2 ↔ l.length = 0) ∧ ((tg l).2 = 9 ↔ 256 < l.length)) := by
  unfold tg
  by_cases h0 : l.length = 0
  · rw [if_pos h0]; right; exact ⟨by decide, rfl, by simp [h0], by simp [h0]⟩
  · rw [if_neg h0]
    by_cases h1 : 256 < l.length
    · rw [if_pos h1]; right; exact ⟨by decide, rfl, by simp [h0], by simp [h1]⟩
    · rw [if_neg h1]
      by_cases h2 : (List.range' 0 l.length).any (bad l) = true
      · rw [if_pos h2]; right; exact ⟨by decide, rfl, by simp [h0], by simp [h1]⟩
      · rw [if_neg h2]
        by_cases h3 : ends l = true
        · rw [if_pos h3]
          left
          refine ⟨⟨by omega, by omega, fun i hi => ?_, h3⟩, rfl⟩
          have h2 := Bool.eq_false_iff.mpr h2
          rw [List.any_eq_false] at h2
          exact Bool.eq_false_iff.mpr (h2 i (by rw [List.mem_range'_1]; omega))
        · rw [if_neg h3]; right; exact ⟨by decide, rfl, by simp [h0], by simp [h1]⟩
/-- where an instruction of such a program jumps to. -/
theorem Fine.tt {l : List S42} (g : Fine l) (i : Nat) (hi : i < l.length) : (J l[i] = true ∧ ∃ k, k < l.length ∧ (slot l k : Int) = (slot l (i + 1) : Int) + l[i].f3 ∧ tt l i = (k : Int)) ∨ (J l[i] = false ∧ tt l i = -1) := by
  have hb := g.ok i hi
  unfold bad at hb
  unfold C06.tt
  rw [getD_get l i hi] at *
  by_cases hj : J l[i] = true
  · left
    rw [hj, Bool.true_and] at hb
    have hn := of_decide_eq_false hb
    rcases tgt_spec l i with ⟨k, hk, hs, hv⟩ | ⟨_, hv⟩
    · unfold aim at hs
      rw [getD_get l i hi] at hs
      exact ⟨hj, k, hk, hs, by rw [if_pos hj, hv]⟩
    · omega
  · right
    have hj := Bool.eq_false_iff.mpr hj
    exact ⟨hj, by rw [hj, if_neg nt]⟩
theorem rd_tt (l : List S42) (i : Nat) (hi : i < l.length) : rd ((List.range l.length).map (tt l)) (i : Int) = tt l i := by rw [rdI _ _ (by simp; omega), List.getElem_map, List.getElem_range]
end Go.Proofs.Ytkcneaaoghgllaa.C06
