/- FlowInside, without Go. -/
import Derived.Test.YtkcneaaoghgllaaC06n
import Derived.Test.YtkcneaaoghgllaaPA18
import Derived.Test.YtkcneaaoghgllaaPA22
set_option linter.unusedVariables false
set_option linter.unusedSimpArgs false
set_option linter.unusedSectionVars false
namespace Go.Proofs.Ytkcneaaoghgllaa.LFlowInside
open Go.RowKit Go.Proofs.YtkcneaaoghgllaaW.PrintWords Go.Proofs.YtkcneaaoghgllaaW.PrintLast Go.Proofs.YtkcneaaoghgllaaW.PrintMore Go.Proofs.Ytkcneaaoghgllaa.PA Go.Proofs.Ytkcneaaoghgllaa.Bv Go.Proofs.Ytkcneaaoghgllaa.C06
theorem same_l (a : List Bool) (hl : a.length ≤ 1000) (d : Nat) : ∀ (k i : Nat), i + d = a.length → d < k → lockgatelaw06_same.l0 k a a (i : Int) = some true := by
  induction d with
  | zero =>
    intro k i hi hk
    obtain ⟨k, rfl⟩ : ∃ m, k = m + 1 := ⟨k - 1, by omega⟩
    rw [lockgatelaw06_same.l0]
    exact ife (by omega) rfl
  | succ d ih =>
    intro k i hi hk
    obtain ⟨k, rfl⟩ : ∃ m, k = m + 1 := ⟨k - 1, by omega⟩
    rw [lockgatelaw06_same.l0, w64u (by omega), ih k (i + 1) (by omega) (by omega)]
    refine ift (by omega) (ift (by omega) (ift (by omega) (ife (by rw [bne_self_eq_false]; exact nt) rfl)))
theorem same_f (a : List Bool) (hl : a.length ≤ 1000) (k : Nat) (hk : a.length < k) : lockgatelaw06_same.f k a a = some true := by
  unfold lockgatelaw06_same.f
  exact ift rfl (same_l a hl a.length k 0 (by omega) hk)
theorem set_any (o : List Bool) (b : Bool) (i j : Nat) (hi : i < o.length) : (o.set i b).getD j false = (if i = j then b else o.getD j false) := by
  rw [List.getD_eq_getElem?_getD, List.getElem?_set]
  by_cases e : i = j
  · subst e; rw [if_pos rfl, if_pos rfl, if_pos hi]; rfl
  · rw [if_neg e, if_neg e, List.getD_eq_getElem?_getD]
/-- what is behind something that is reached, as far as was looked. -/
def F (l : List S42) (i p j : Nat) : Prop := j = 0 ∨ (∃ q, q < i ∧ Rch l q ∧ j ∈ nx l q) ∨ (Rch l i ∧ j ∈ (nx l i).take p)
theorem F_next (l : List S42) (i j : Nat) : F l i (nx l i).length j ↔ F l (i + 1) 0 j := by
  unfold F
  rw [List.take_length, List.take_zero]
  constructor
  · rintro (h | ⟨q, a, b, c⟩ | ⟨a, b⟩)
    · exact Or.inl h
    · exact Or.inr (Or.inl ⟨q, by omega, b, c⟩)
    · exact Or.inr (Or.inl ⟨i, by omega, a, b⟩)
  · rintro (h | ⟨q, a, b, c⟩ | ⟨a, b⟩)
    · exact Or.inl h
    · by_cases e : q = i
      · subst e; exact Or.inr (Or.inr ⟨b, c⟩)
      · exact Or.inr (Or.inl ⟨q, by omega, b, c⟩)
    · exact absurd b (by simp)
theorem F_step (l : List S42) (i p j : Nat) (hp : p < (nx l i).length) : F l i (p + 1) j ↔ (F l i p j ∨ (Rch l i ∧ j = (nx l i)[p])) := by
  unfold F
  rw [List.take_succ_eq_append_getElem hp]
  simp only [List.mem_append, List.mem_singleton]
  constructor
  · rintro (h | h | ⟨a, b | b⟩)
    · exact Or.inl (Or.inl h)
    · exact Or.inl (Or.inr (Or.inl h))
    · exact Or.inl (Or.inr (Or.inr ⟨a, b⟩))
    · exact Or.inr ⟨a, b⟩
  · rintro ((h | h | ⟨a, b⟩) | ⟨a, b⟩)
    · exact Or.inl h
    · exact Or.inr (Or.inl h)
    · exact Or.inr (Or.inr ⟨a, Or.inl b⟩)
    · exact Or.inr (Or.inr ⟨a, Or.inr b⟩)
theorem F_fin {l : List S42} (g : Fine l) (j : Nat) : F l l.length 0 j ↔ Rch l j := by
  unfold F
  rw [List.take_zero]
  constructor
  · rintro (rfl | ⟨q, a, b, c⟩ | ⟨a, b⟩)
    · exact .zero
    · exact .step b c
    · exact absurd b (by simp)
  · intro h
    cases h with
    | zero => exact Or.inl rfl
    | step r m => exact Or.inr (Or.inl ⟨_, r.lt g, r, m⟩)
theorem inside_1 (l : List S42) (g : Fine l) (i : Nat) (hi : i < l.length) (d : Nat) : ∀ (k p : Nat) (o : List Bool), p + d = (nx l i).length → o.length = l.length → (∀ j, j < l.length → (o.getD j false = true ↔ F l i p j)) →
    ∃ o', o'.length = l.length ∧ (∀ j, j < l.length → (o'.getD j false = true ↔ F l (i + 1) 0 j)) ∧ lockgatelaw06_FlowInside.l1 (k + d + 1) l (T l) (rc l) o (i : Int) ((nx l i).map up) (p : Int) = lockgatelaw06_FlowInside.l0 k l (T l) (rc l) o' ((i + 1 : Nat) : Int) := by
  have hle := g.le
  have h2 := nx_two g hi
  induction d with
  | zero =>
    intro k p o hp ho hf
    obtain rfl : p = (nx l i).length := by omega
    refine ⟨o, ho, fun j hj => (hf j hj).trans (F_next l i j), ?_⟩
    rw [show k + 0 + 1 = k + 1 from rfl, lockgatelaw06_FlowInside.l1, List.length_map, w64u (n := i) (by omega)]
    refine ife (by omega) (ife (by omega) ?_)
    by_cases e : (nx l i).length = 2
    · have hne := h2.2 e
      rw [show (0 : Int) = ((0 : Nat) : Int) from rfl, show (1 : Int) = ((1 : Nat) : Int) from rfl, rdI _ 0 (by simp; omega), rdI _ 1 (by simp; omega), List.getElem_map, List.getElem_map]
      refine ift (by omega) (ift (by omega) (ift (by omega) (ife (fun q => hne ?_) rfl)))
      rw [List.getD_eq_getElem?_getD, List.getD_eq_getElem?_getD, List.getElem?_eq_getElem (by omega), List.getElem?_eq_getElem (by omega)]
      exact Int.ofNat.inj q
    · exact ife (by omega) rfl
  | succ d ih =>
    intro k p o hp ho hf
    have hpl : p < (nx l i).length := by omega
    have hm : (nx l i)[p] ∈ nx l i := List.getElem_mem hpl
    have hn := nx_mem g hi hm
    have hrl := rc_len l
    have hv : rd ((nx l i).map up) (p : Int) = ((nx l i)[p] : Int) := by rw [rdI _ _ (by simp; omega), List.getElem_map]
    have step : ∀ b : Bool, (b = true ↔ (F l i p (nx l i)[p] ∨ Rch l i)) → ∃ o', o'.length = l.length ∧ (∀ j, j < l.length → (o'.getD j false = true ↔ F l (i + 1) 0 j)) ∧ lockgatelaw06_FlowInside.l1 (k + d + 1) l (T l) (rc l) (o.set (nx l i)[p] b) (i : Int) ((nx l i).map up) ((p + 1 : Nat) : Int) = lockgatelaw06_FlowInside.l0 k l (T l) (rc l) o' ((i + 1 : Nat) : Int) := by
      intro b hb
      refine ih k (p + 1) (o.set (nx l i)[p] b) (by omega) (by rw [List.length_set]; exact ho) (fun j hj => ?_)
      rw [set_any _ _ _ _ (by omega), F_step l i p j hpl]
      by_cases e : (nx l i)[p] = j
      · rw [if_pos e, hb, ← e]
        constructor
        · rintro (a | a)
          · exact Or.inl a
          · exact Or.inr ⟨a, rfl⟩
        · rintro (a | ⟨a, _⟩)
          · exact Or.inl a
          · exact Or.inr a
      · rw [if_neg e, hf j hj]
        exact ⟨Or.inl, fun a => a.resolve_right (fun q => e q.2.symm)⟩
    have hra := rc_at l i hi
    have hri : rdOf false (rc l) (i : Int) = (rc l).getD i false := rfl
    have hrn : rdOf false (rc l) ((nx l i)[p] : Int) = (rc l).getD (nx l i)[p] false := rfl
    have hon : rdOf false o ((nx l i)[p] : Int) = o.getD (nx l i)[p] false := rfl
    rw [show k + (d + 1) + 1 = (k + d + 1) + 1 from rfl, lockgatelaw06_FlowInside.l1, List.length_map, hv, hri, hrn, hon, w64u (n := p) (by omega), Int.toNat_natCast, hrl, ho]
    have hfp := hf _ hn
    by_cases hr : (rc l).getD i false = true
    · have hR := hra.mp hr
      have hq := (rc_at l _ hn).mpr (.step hR hm)
      obtain ⟨o', h1, h3, h4⟩ := step true ⟨fun _ => Or.inr hR, fun _ => rfl⟩
      refine ⟨o', h1, h3, ?_⟩
      rw [← h4]
      refine ift (by omega) (ift (by omega) (ife (by omega) (ife (by omega) (ift (by omega) (ift (by omega) (ift hr (ift (by omega) (ift (by omega) (ift hq (ift (by omega) ?_))))))))))
      rw [hr]
      by_cases hb : o.getD (nx l i)[p] false = true
      · exact ift hb rfl
      · exact ife hb rfl
    · have hR : ¬ Rch l i := fun q => hr (hra.mpr q)
      by_cases hb : o.getD (nx l i)[p] false = true
      · obtain ⟨o', h1, h3, h4⟩ := step true ⟨fun _ => Or.inl (hfp.mp hb), fun _ => rfl⟩
        refine ⟨o', h1, h3, ?_⟩
        rw [← h4]
        exact ift (by omega) (ift (by omega) (ife (by omega) (ife (by omega) (ift (by omega) (ift (by omega) (ife hr (ift (by omega) (ift (by omega) (ift hb rfl)))))))))
      · obtain ⟨o', h1, h3, h4⟩ := step false ⟨fun q => absurd q nt, fun q => absurd q (by rintro (a | a); exact hb (hfp.mpr a); exact hR a)⟩
        refine ⟨o', h1, h3, ?_⟩
        rw [← h4]
        rw [Bool.eq_false_iff.mpr hr]
        exact ift (by omega) (ift (by omega) (ife (by omega) (ife (by omega) (ift (by omega) (ift (by omega) (ife nt (ift (by omega) (ift (by omega) (ife hb rfl)))))))))
theorem inside_0 (l : List S42) (g : Fine l) (d : Nat) : ∀ (k i : Nat) (o : List Bool), i + d = l.length → 4 * d + 1000 < k → o.length = l.length → (∀ j, j < l.length → (o.getD j false = true ↔ F l i 0 j)) →
    lockgatelaw06_FlowInside.l0 k l (T l) (rc l) o (i : Int) = some true := by
  have hle := g.le
  induction d with
  | zero =>
    intro k i o hi hk ho hf
    obtain rfl : i = l.length := by omega
    obtain rfl : o = rc l := rc_eq ho (fun j hj => (hf j hj).trans (F_fin g j))
    obtain ⟨k, rfl⟩ : ∃ m, k = m + 1 := ⟨k - 1, by omega⟩
    rw [lockgatelaw06_FlowInside.l0]
    exact ife (by omega) (bs (same_f _ (by omega) k (by omega)) (ift rfl (bs (works_f k (by omega)) rfl)))
  | succ d ih =>
    intro k i o hi hk ho hf
    have h2 := (nx_two g (show i < l.length by omega)).1
    obtain ⟨k, rfl⟩ : ∃ m, k = m + (nx l i).length + 1 + 1 := ⟨k - (nx l i).length - 2, by omega⟩
    rw [lockgatelaw06_FlowInside.l0]
    refine ift (by omega) (bs (next_f l g _ i (by omega) (by omega)) ?_)
    obtain ⟨o', h1, h3, h4⟩ := inside_1 l g i (by omega) (nx l i).length k 0 o (by omega) ho hf
    exact h4.trans (ih k (i + 1) o' (by omega) (by omega) h1 h3)
theorem law (k : Nat) (l : List S42) (hm : l.length ≤ 9223372036854775807) (hk : l.length + 10000 ≤ k) : lockgatelaw06_FlowInside.f k l = some true := by
  unfold lockgatelaw06_FlowInside.f
  refine bs (right_f k l hm (by omega)) ?_
  by_cases hr : R l = true
  · obtain ⟨_, ho, hl⟩ := R_all hr
    refine ift hr (bs (targets_f k l (by omega) ho) ?_)
    rcases tg_cases l with ⟨g, he⟩ | ⟨h0, _⟩
    · rw [he]
      have h2 := g.le
      have h1 := g.pos
      have hrl := rc_len l
      obtain ⟨k, rfl⟩ : ∃ m, k = m + 1 := ⟨k - 1, by omega⟩
      refine ift rfl (bs (reached_f l g _ (by omega)) (ift (by omega) (ift (by omega) ?_)))
      have hz : rdOf false (rc l) 0 = true := (rc_at l 0 h1).mpr .zero
      rw [hz, lockgatelaw06_FlowInside.j0, Int.toNat_natCast]
      refine ife (by decide) (ift (by omega) (ift (by omega) (bs rfl (ift (by simp; omega) ?_))))
      have hzr : ∀ i, (List.replicate l.length false).getD i false = false := by
        intro i
        rw [List.getD_eq_getElem?_getD, List.getElem?_replicate]; split <;> rfl
      refine inside_0 l g l.length k 0 _ (by omega) (by omega) (by simp) (fun j hj => ?_)
      rw [show (0 : Int).toNat = 0 from rfl, set_any _ _ _ _ (by simp; omega), hzr]
      unfold F
      by_cases e : 0 = j
      · rw [if_pos e]; exact ⟨fun _ => Or.inl e.symm, fun _ => rfl⟩
      · rw [if_neg e]
        refine ⟨fun q => absurd q nt, ?_⟩
        rintro (a | ⟨q, a, _⟩ | ⟨_, a⟩)
        · exact absurd a.symm e
        · exact absurd a (by omega)
        · exact absurd a (by simp)
    · exact ife h0 (bs (works_f k (by omega)) rfl)
  · exact ife hr (bs (works_f k (by omega)) rfl)
theorem pure (l0 : List S42) (hm : l0.length ≤ maxLen) (hw : ∀ x ∈ l0, (Lit.int .i64 x.f0).wf = true ∧ (Lit.int .i64 x.f1).wf = true ∧ (Lit.int .i64 x.f2).wf = true ∧ (Lit.int .i64 x.f3).wf = true ∧ (Lit.int .i64 x.f4).wf = true) :
    ∃ k, lockgatelaw06_FlowInside.f k l0 = some true := ⟨_, law _ l0 (by simpa [maxLen] using hm) (Nat.le_refl _)⟩
end Go.Proofs.Ytkcneaaoghgllaa.LFlowInside
