/- Layer 6: what is reached, by rounds. -/
import Derived.Test.YtkcneaaoghgllaaC06q
import Derived.Test.YtkcneaaoghgllaaPA16
set_option linter.unusedVariables false
set_option linter.unusedSimpArgs false
set_option linter.unusedSectionVars false
namespace Go.Proofs.Ytkcneaaoghgllaa.C06
open Go.RowKit Go.Proofs.YtkcneaaoghgllaaW.PrintWords Go.Proofs.YtkcneaaoghgllaaW.PrintLast Go.Proofs.YtkcneaaoghgllaaW.PrintMore Go.Proofs.Ytkcneaaoghgllaa.PA Go.Proofs.Ytkcneaaoghgllaa.Bv
theorem cn_set_le (o : List Bool) (i : Nat) : cn (o.set i true) ≤ cn o := by
  induction o generalizing i with
  | nil => simp [cn]
  | cons b o ih =>
    cases i with
    | zero => rw [List.set_cons_zero, cn, cn, List.countP_cons, List.countP_cons]; simp
    | succ i =>
      have := ih i
      unfold cn at this ⊢
      rw [List.set_cons_succ, List.countP_cons, List.countP_cons]
      omega
theorem set_same {o : List Bool} {i : Nat} (hi : i < o.length) (h : o.getD i false = true) : o.set i true = o := by
  have : o[i] = true := by rw [List.getD_eq_getElem?_getD, List.getElem?_eq_getElem hi] at h; exact h
  rw [← this]; exact List.set_getElem_self hi
/-- what holds within a round, ahead of the i-th instruction. -/
structure Rd (l : List S42) (c i : Nat) (o : List Bool) (m : Bool) : Prop where
  len : o.length = l.length
  on : ∀ j, j < l.length → o.getD j false = true → Rch l j
  le : cn o ≤ c
  lt : m = true → cn o < c
  cl : m = false → ∀ q, q < i → (q = 0 ∨ o.getD q false = true) → o.getD q false = true ∧ ∀ j, j ∈ nx l q → o.getD j false = true
/-- amid one. -/
structure Rm (l : List S42) (c i p : Nat) (o : List Bool) (m : Bool) : Prop extends Rd l c i o m where
  cur : o.getD i false = true
  so : m = false → ∀ j, j ∈ (nx l i).take p → o.getD j false = true
theorem Rm.next {l : List S42} {c i : Nat} {o : List Bool} {m : Bool} (h : Rm l c i (nx l i).length o m) : Rd l c (i + 1) o m := by
  refine ⟨h.len, h.on, h.le, h.lt, fun hm q hq hz => ?_⟩
  by_cases e : q = i
  · subst e
    have := h.so hm
    rw [List.take_length] at this
    exact ⟨h.cur, this⟩
  · exact h.cl hm q (by omega) hz
theorem Rm.step {l : List S42} (g : Fine l) {c i p : Nat} {o : List Bool} {m : Bool} (h : Rm l c i p o m) (hi : i < l.length) (hp : p < (nx l i).length) : Rm l c i (p + 1) (o.set (nx l i)[p] true) (m || !(o.getD (nx l i)[p] false)) := by
  have hm : (nx l i)[p] ∈ nx l i := List.getElem_mem hp
  have hn := nx_mem g hi hm
  have ho := h.len
  have hr : Rch l (nx l i)[p] := .step (h.on i hi h.cur) hm
  generalize hx : (nx l i)[p] = x at *
  by_cases hb : o.getD x false = true
  · rw [set_same (by omega) hb, hb, show (m || !true) = m by cases m <;> rfl]
    refine { toRd := h.toRd, cur := h.cur, so := fun hm2 j hj => ?_ }
    rw [List.take_succ_eq_append_getElem hp, hx, List.mem_append, List.mem_singleton] at hj
    rcases hj with hj | rfl
    · exact h.so hm2 j hj
    · exact hb
  · have hb := Bool.eq_false_iff.mpr hb
    rw [hb, show (m || !false) = true by cases m <;> rfl]
    have hc := cn_set (by omega) hb
    have hle := h.le
    refine { len := by rw [List.length_set]; exact ho, on := fun j hj hj2 => ?_, le := by omega, lt := fun _ => by omega, cl := fun q => absurd q (by decide), cur := ?_, so := fun q => absurd q (by decide) }
    · rw [set_at _ _ _ (by omega)] at hj2
      by_cases e : x = j
      · subst e; exact hr
      · rw [if_neg e] at hj2; exact h.on j hj hj2
    · rw [set_at _ _ _ (by omega)]
      split
      · rfl
      · exact h.cur
theorem round_2 (l : List S42) (g : Fine l) (c i : Nat) (hi : i < l.length) (d : Nat) : ∀ (p : Nat) (o : List Bool) (m : Bool), p + d = (nx l i).length → Rm l c i p o m →
    ∃ o' m', Rd l c (i + 1) o' m' ∧ ∀ k, lockgateref06_Reached.l2 (k + d + 1) l (T l) o m (i : Int) ((nx l i).map up) (p : Int) = lockgateref06_Reached.l1 k l (T l) o' m' ((i + 1 : Nat) : Int) := by
  have hle := g.le
  have h2 := nx_two g hi
  induction d with
  | zero =>
    intro p o m hp h
    obtain rfl : p = (nx l i).length := by omega
    refine ⟨o, m, h.next, fun k => ?_⟩
    rw [show k + 0 + 1 = k + 1 from rfl, lockgateref06_Reached.l2, List.length_map, w64u (n := i) (by omega)]
    exact ife (by omega) rfl
  | succ d ih =>
    intro p o m hp h
    have hpl : p < (nx l i).length := by omega
    have hm : (nx l i)[p] ∈ nx l i := List.getElem_mem hpl
    have hn := nx_mem g hi hm
    have ho := h.len
    have hv : rd ((nx l i).map up) (p : Int) = ((nx l i)[p] : Int) := by rw [rdI _ _ (by simp; omega), List.getElem_map]
    have hon : rdOf false o ((nx l i)[p] : Int) = o.getD (nx l i)[p] false := rfl
    obtain ⟨o', m', h1, h3⟩ := ih (p + 1) _ _ (by omega) (h.step g hi hpl)
    refine ⟨o', m', h1, fun k => ?_⟩
    rw [show k + (d + 1) + 1 = (k + d + 1) + 1 from rfl, lockgateref06_Reached.l2, List.length_map, hv, hon, w64u (n := p) (by omega), Int.toNat_natCast, ho, ← h3]
    refine ift (by omega) ?_
    cases m with
    | true => exact ift rfl (ift (by omega) (ift (by omega) (ift (by omega) (by rw [Bool.true_or]))))
    | false => exact ife nt (ift (by omega) (ift (by omega) (ift (by omega) (by rw [Bool.false_or]))))
theorem round_1 (l : List S42) (g : Fine l) (hb : ∀ x, x ∈ l → byt x) (c : Nat) (d : Nat) : ∀ (i : Nat) (o : List Bool) (m : Bool), i + d = l.length → Rd l c i o m →
    ∃ e o' m', e ≤ 5 * d + 1 ∧ Rd l c l.length o' m' ∧ ∀ k, lockgateref06_Reached.l1 (k + e) l (T l) o m (i : Int) = lockgateref06_Reached.l0 k l (T l) o' m' := by
  have hle := g.le
  induction d with
  | zero =>
    intro i o m hi h
    obtain rfl : i = l.length := by omega
    refine ⟨1, o, m, by omega, h, fun k => ?_⟩
    rw [lockgateref06_Reached.l1]
    exact ife (by omega) rfl
  | succ d ih =>
    intro i o m hi h
    have hlt : i < l.length := by omega
    have ho := h.len
    have h2 := (nx_two g hlt).1
    have hri : rdOf false o (i : Int) = o.getD i false := rfl
    by_cases hs : i > 0 ∧ o.getD i false = false
    · obtain ⟨e, o', m', he, h1, h3⟩ := ih (i + 1) o m (by omega) ⟨h.len, h.on, h.le, h.lt, fun hm q hq hz => by
        by_cases e : q = i
        · subst e
          rcases hz with hz | hz
          · omega
          · rw [hs.2] at hz; exact absurd hz (by decide)
        · exact h.cl hm q (by omega) hz⟩
      refine ⟨e + 2, o', m', by omega, h1, fun k => ?_⟩
      rw [show k + (e + 2) = (k + e) + 1 + 1 from rfl, lockgateref06_Reached.l1, hri, hs.2, lockgateref06_Reached.j2, w64u (by omega), h3]
      exact ift (by omega) (ift (by omega) (ift (by omega) (ift (by omega) (ift rfl rfl))))
    · have hR : Rch l i := by
        by_cases e : i = 0
        · subst e; exact .zero
        · exact h.on i hlt (by
            rcases Bool.eq_false_or_eq_true (o.getD i false) with q | q
            · exact q
            · exact absurd ⟨by omega, q⟩ hs)
      have hm0 : Rm l c i 0 (o.set i true) m := by
        refine { len := by rw [List.length_set]; exact ho, on := fun j hj hj2 => ?_, le := Nat.le_trans (cn_set_le o i) h.le, lt := fun q => Nat.lt_of_le_of_lt (cn_set_le o i) (h.lt q), cl := fun hm q hq hz => ?_, cur := by rw [set_at _ _ _ (by omega), if_pos rfl], so := fun _ j hj => absurd hj (by simp) }
        · rw [set_at _ _ _ (by omega)] at hj2
          by_cases e : i = j
          · subst e; exact hR
          · rw [if_neg e] at hj2; exact h.on j hj hj2
        · rw [set_at _ _ _ (by omega), if_neg (by omega)] at hz ⊢
          have := h.cl hm q hq hz
          refine ⟨this.1, fun j hj => ?_⟩
          rw [set_at _ _ _ (by omega)]
          split
          · rfl
          · exact this.2 j hj
      obtain ⟨o1, m1, h1, h3⟩ := round_2 l g c i hlt (nx l i).length 0 _ m (by omega) hm0
      obtain ⟨e, o', m', he, h4, h5⟩ := ih (i + 1) o1 m1 (by omega) h1
      refine ⟨e + (nx l i).length + 1 + 1 + 1, o', m', by omega, h4, fun k => ?_⟩
      have hj : lockgateref06_Reached.j2 (k + e + (nx l i).length + 1 + 1) l (T l) o m (i : Int) false = lockgateref06_Reached.l0 k l (T l) o' m' := by
        rw [lockgateref06_Reached.j2, Int.toNat_natCast]
        refine ife nt (ift (by omega) (ift (by omega) ?_))
        exact bs (rnext_f l g hb _ i hlt (by omega)) ((h3 (k + e)).trans (h5 k))
      rw [show k + (e + (nx l i).length + 1 + 1 + 1) = (k + e + (nx l i).length + 1 + 1) + 1 by omega, lockgateref06_Reached.l1, hri]
      refine ift (by omega) ?_
      by_cases e0 : i > 0
      · have : o.getD i false = true := by
          rcases Bool.eq_false_or_eq_true (o.getD i false) with q | q
          · exact q
          · exact absurd ⟨e0, q⟩ hs
        rw [this]
        exact ift (by omega) (ift (by omega) (ift (by omega) hj))
      · exact ife (by omega) hj
theorem Rd.fin {l : List S42} (g : Fine l) {c : Nat} {o : List Bool} (h : Rd l c l.length o false) : o = rc l := by
  refine rc_eq h.len (fun i hi => ⟨fun a => h.on i hi a, fun a => ?_⟩)
  induction a with
  | zero => exact (h.cl rfl 0 hi (Or.inl rfl)).1
  | step r m ih =>
    have hl := r.lt g
    exact (h.cl rfl _ hl (Or.inr (ih hl))).2 _ m
theorem rounds (l : List S42) (g : Fine l) (hb : ∀ x, x ∈ l → byt x) (c : Nat) : ∀ (k : Nat) (o : List Bool), 1300 * c + 1302 < k → o.length = l.length → (∀ j, j < l.length → o.getD j false = true → Rch l j) → cn o ≤ c → lockgateref06_Reached.l0 k l (T l) o true = some (rc l) := by
  have hle := g.le
  induction c with
  | zero =>
    intro k o hk ho hon hc
    obtain ⟨e, o', m', he, h1, h2⟩ := round_1 l g hb 0 l.length 0 o false (by omega) ⟨ho, hon, hc, fun q => absurd q (by decide), fun _ q hq => absurd hq (by omega)⟩
    have hm : m' = false := by
      cases m' with
      | false => rfl
      | true => have := h1.lt rfl; omega
    subst hm
    obtain ⟨k, rfl⟩ : ∃ q, k = q + 1 + e + 1 := ⟨k - e - 2, by omega⟩
    rw [lockgateref06_Reached.l0]
    refine ift rfl ((h2 (k + 1)).trans ?_)
    rw [lockgateref06_Reached.l0, h1.fin g]
    exact ife nt rfl
  | succ c ih =>
    intro k o hk ho hon hc
    obtain ⟨e, o', m', he, h1, h2⟩ := round_1 l g hb (c + 1) l.length 0 o false (by omega) ⟨ho, hon, hc, fun q => absurd q (by decide), fun _ q hq => absurd hq (by omega)⟩
    obtain ⟨k, rfl⟩ : ∃ q, k = q + 1 + e + 1 := ⟨k - e - 2, by omega⟩
    rw [lockgateref06_Reached.l0]
    refine ift rfl ((h2 (k + 1)).trans ?_)
    cases m' with
    | false =>
      rw [lockgateref06_Reached.l0, h1.fin g]
      exact ife nt rfl
    | true =>
      have := h1.lt rfl
      exact ih (k + 1) o' (by omega) h1.len h1.on (by omega)
theorem rreached_f (l : List S42) (g : Fine l) (hb : ∀ x, x ∈ l → byt x) (k : Nat) (hk : 400000 ≤ k) : lockgateref06_Reached.f k l (T l) = some (rc l) := by
  have hl := g.le
  unfold lockgateref06_Reached.f
  rw [Int.toNat_natCast]
  refine ift (by omega) (ift (by omega) (rounds l g hb 256 k _ (by omega) (by simp) (fun j hj h => ?_) (by have := cn_le (List.replicate l.length false); rw [List.length_replicate] at this; omega)))
  rw [List.getD_eq_getElem?_getD, List.getElem?_replicate] at h
  split at h <;> exact absurd h nt
end Go.Proofs.Ytkcneaaoghgllaa.C06
