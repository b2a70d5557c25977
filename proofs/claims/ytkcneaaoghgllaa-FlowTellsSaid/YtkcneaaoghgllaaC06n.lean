/- Layer 6: flow.Next, flow.Reached. -/
import Derived.Test.YtkcneaaoghgllaaC06r
import Derived.Test.YtkcneaaoghgllaaPA5
import Derived.Test.YtkcneaaoghgllaaPA6
set_option linter.unusedVariables false
set_option linter.unusedSimpArgs false
set_option linter.unusedSectionVars false
namespace Go.Proofs.Ytkcneaaoghgllaa.C06
open Go.RowKit Go.Proofs.YtkcneaaoghgllaaW.PrintWords Go.Proofs.YtkcneaaoghgllaaW.PrintLast Go.Proofs.YtkcneaaoghgllaaW.PrintMore Go.Proofs.Ytkcneaaoghgllaa.PA Go.Proofs.Ytkcneaaoghgllaa.Bv
/-- where all instructions jump to. -/
abbrev T (l : List S42) : List Int := (List.range l.length).map (tt l)
theorem T_len (l : List S42) : (T l).length = l.length := by simp [T]
theorem rdTT (l : List S42) (i : Nat) (hi : i < l.length) : rd (T l) (i : Int) = tt l i := rd_tt l i hi
/-- what may be done behind an instruction. -/
def nx (l : List S42) (i : Nat) : List Nat := if isx (l.getD i no) 9 = true then [] else if isx (l.getD i no) 0 = true then [(tt l i).toNat] else if tt l i < 0 then [i + 1] else if tt l i = (i : Int) + 1 then [i + 1] else [i + 1, (tt l i).toNat]
abbrev up (x : Nat) : Int := (x : Int)
theorem isJ {x : S42} (h : isx x 0 = true) : J x = true := by
  unfold isx at h
  unfold J
  by_cases a : Go.bits .and .i64 x.f0 7 = 5
  · rw [if_pos a] at h ⊢
    have h := beq_iff_eq.mp h
    rw [if_neg (by omega), h]; rfl
  · rw [if_neg a] at h; exact absurd h nt
theorem Fine.tlt {l : List S42} (g : Fine l) {i : Nat} (hi : i < l.length) : C06.tt l i = -1 ∨ ∃ k, k < l.length ∧ C06.tt l i = (k : Int) := by
  rcases g.tt i hi with ⟨_, k, hk, _, he⟩ | ⟨_, he⟩
  · exact Or.inr ⟨k, hk, he⟩
  · exact Or.inl he
theorem Fine.tja {l : List S42} (g : Fine l) {i : Nat} (hi : i < l.length) (h : isx l[i] 0 = true) : ∃ k, k < l.length ∧ C06.tt l i = (k : Int) := by
  rcases g.tt i hi with ⟨_, k, hk, _, he⟩ | ⟨hj, _⟩
  · exact ⟨k, hk, he⟩
  · rw [isJ h] at hj; exact absurd hj (by decide)
theorem Fine.succ {l : List S42} (g : Fine l) {i : Nat} (hi : i < l.length) (h9 : ¬ isx l[i] 9 = true) (h0 : ¬ isx l[i] 0 = true) : i + 1 < l.length := by
  have hf := g.fin
  unfold ends at hf
  rw [getD_get l _ (by omega)] at hf
  by_cases e : i + 1 = l.length
  · have e2 : l.length - 1 = i := by omega
    simp only [e2] at hf
    rw [Bool.eq_false_iff.mpr h9, Bool.eq_false_iff.mpr h0] at hf
    exact absurd hf nt
  · omega
theorem nx_mem {l : List S42} (g : Fine l) {i j : Nat} (hi : i < l.length) (h : j ∈ nx l i) : j < l.length := by
  unfold nx at h
  rw [getD_get l i hi] at h
  by_cases h9 : isx l[i] 9 = true
  · rw [if_pos h9] at h; exact absurd h (by simp)
  · rw [if_neg h9] at h
    by_cases h0 : isx l[i] 0 = true
    · rw [if_pos h0] at h
      obtain ⟨k, hk, he⟩ := g.tja hi h0
      rw [he] at h
      simp at h; omega
    · have hs := g.succ hi h9 h0
      rw [if_neg h0] at h
      rcases g.tlt hi with he | ⟨k, hk, he⟩
      · rw [he, if_pos (by decide)] at h; simp at h; omega
      · rw [he, if_neg (by omega)] at h
        by_cases e : (k : Int) = (i : Int) + 1
        · rw [if_pos e] at h; simp at h; omega
        · rw [if_neg e] at h; simp at h; omega
theorem nx_two {l : List S42} (g : Fine l) {i : Nat} (hi : i < l.length) : (nx l i).length ≤ 2 ∧ ((nx l i).length = 2 → (nx l i).getD 0 0 ≠ (nx l i).getD 1 0) := by
  unfold nx
  rw [getD_get l i hi]
  by_cases h9 : isx l[i] 9 = true
  · rw [if_pos h9]; simp
  · rw [if_neg h9]
    by_cases h0 : isx l[i] 0 = true
    · rw [if_pos h0]; simp
    · rw [if_neg h0]
      by_cases hn : tt l i < 0
      · rw [if_pos hn]; simp
      · rw [if_neg hn]
        by_cases he : tt l i = (i : Int) + 1
        · rw [if_pos he]; simp
        · rw [if_neg he]; simp; omega
theorem next_f (l : List S42) (g : Fine l) (k i : Nat) (hi : i < l.length) (hk : 0 < k) : flow_Next.f k l (T l) (i : Int) = some ((nx l i).map up) := by
  obtain ⟨k, rfl⟩ : ∃ m, k = m + 1 := ⟨k - 1, by omega⟩
  have hl := g.le
  have ht := T_len l
  unfold flow_Next.f nx
  rw [rdT l i hi, getD_get l i hi]
  refine ife (by omega) (ife (by omega) (ift (by omega) (ift (by omega) (bs (is_f _ 9) ?_))))
  rw [flow_Next.j0]
  by_cases h9 : isx l[i] 9 = true
  · refine ift h9 ?_; rw [if_pos h9]; rfl
  · refine ife h9 (ift (by omega) (ift (by omega) ?_))
    rw [if_neg h9, rdT l i hi]
    refine bs (is_f _ 0) ?_
    rw [rdTT l i hi, w64u (by omega)]
    by_cases h0 : isx l[i] 0 = true
    · obtain ⟨q, hq, he⟩ := g.tja hi h0
      refine ift h0 (ift (by omega) ?_)
      rw [if_pos h0, he]; rfl
    · refine ife h0 (ift (by omega) ?_)
      rw [if_neg h0]
      rcases g.tlt hi with he | ⟨q, hq, he⟩
      · rw [he]; refine ift (by decide) ?_; rw [if_pos (c := (-1 : Int) < 0) (by decide)]; rfl
      · rw [he]
        refine ife (by omega) ?_
        rw [if_neg (c := (q : Int) < 0) (by omega)]
        by_cases e : (q : Int) = (i : Int) + 1
        · refine ift (by omega) ?_; rw [if_pos e]; rfl
        · refine ife (by omega) ?_; rw [if_neg e]; rfl
theorem next_out (l : List S42) (k : Nat) (i : Int) (hi : i < 0 ∨ i ≥ (l.length : Int)) (hk : 0 < k) : flow_Next.f k l (T l) i = some [] := by
  obtain ⟨k, rfl⟩ : ∃ m, k = m + 1 := ⟨k - 1, by omega⟩
  unfold flow_Next.f
  rw [flow_Next.j0]
  by_cases a : i < 0
  · exact ift a (ift rfl rfl)
  · exact ife a (ift (by omega) (ift rfl rfl))
/-- there is a way to an instruction. -/
inductive Rch (l : List S42) : Nat → Prop
  | zero : Rch l 0
  | step {i j : Nat} : Rch l i → j ∈ nx l i → Rch l j
theorem Rch.lt {l : List S42} (g : Fine l) {i : Nat} (h : Rch l i) : i < l.length := by
  induction h with
  | zero => exact g.pos
  | step _ m ih => exact nx_mem g ih m
open Classical in
/-- all to which there is one. -/
noncomputable def rc (l : List S42) : List Bool := (List.range l.length).map (fun i => decide (Rch l i))
theorem rc_len (l : List S42) : (rc l).length = l.length := by simp [rc]
theorem rc_at (l : List S42) (i : Nat) (hi : i < l.length) : (rc l).getD i false = true ↔ Rch l i := by
  rw [List.getD_eq_getElem?_getD, List.getElem?_eq_getElem (by rw [rc_len]; exact hi)]
  simp [rc]
theorem rc_eq {l : List S42} {o : List Bool} (hl : o.length = l.length) (h : ∀ i, i < l.length → (o.getD i false = true ↔ Rch l i)) : o = rc l := by
  apply List.ext_getElem (by rw [hl, rc_len])
  intro i h1 h2
  have a := h i (by omega)
  have b := rc_at l i (by omega)
  rw [List.getD_eq_getElem?_getD, List.getElem?_eq_getElem h1] at a
  rw [List.getD_eq_getElem?_getD, List.getElem?_eq_getElem h2] at b
  exact Bool.eq_iff_iff.mpr (a.trans b.symm)
/-- how many are not marked yet. -/
def cn (o : List Bool) : Nat := o.countP (fun b => !b)
theorem cn_set {o : List Bool} {i : Nat} (hi : i < o.length) (h : o.getD i false = false) : cn (o.set i true) + 1 = cn o := by
  induction o generalizing i with
  | nil => exact absurd hi (by simp)
  | cons b o ih =>
    cases i with
    | zero =>
      have : b = false := by simpa using h
      subst this
      simp [cn]
    | succ i =>
      have := ih (i := i) (by simpa using hi) (by simpa using h)
      unfold cn at this ⊢
      rw [List.set_cons_succ, List.countP_cons, List.countP_cons]
      omega
theorem cn_le (o : List Bool) : cn o ≤ o.length := List.countP_le_length
theorem set_at (o : List Bool) (i j : Nat) (hi : i < o.length) : (o.set i true).getD j false = (if i = j then true else o.getD j false) := by
  rw [List.getD_eq_getElem?_getD, List.getElem?_set]
  by_cases e : i = j
  · subst e; rw [if_pos rfl, if_pos rfl, if_pos hi]; rfl
  · rw [if_neg e, if_neg e, List.getD_eq_getElem?_getD]
theorem concat_f (a b : List Int) (ha : a.length ≤ 100000) (hb : b.length ≤ 100000) : slices_Concat_int_int.f a b = some (a ++ b) := by
  unfold slices_Concat_int_int.f
  refine ift (by simp; omega) (bs rfl (ift (by simp; omega) rfl))
/-- what holds of each round. -/
structure Way (l : List S42) (o : List Bool) (w : List Nat) : Prop where
  len : o.length = l.length
  on : ∀ x, x ∈ w → Rch l x
  ok : ∀ i, i < l.length → o.getD i false = true → Rch l i ∧ ∀ j, j ∈ nx l i → o.getD j false = true ∨ j ∈ w
  zero : o.getD 0 false = true ∨ 0 ∈ w
theorem Way.fin {l : List S42} (g : Fine l) {o : List Bool} (h : Way l o []) : o = rc l := by
  refine rc_eq h.len (fun i hi => ⟨fun a => (h.ok i hi a).1, fun a => ?_⟩)
  induction a with
  | zero => exact h.zero.resolve_right (by simp)
  | step r m ih =>
    have hl := r.lt g
    exact (((h.ok _ hl (ih hl)).2 _ m).resolve_right (by simp))
theorem reached_l (l : List S42) (g : Fine l) (m : Nat) : ∀ (k : Nat) (o : List Bool) (w : List Nat), 2 * cn o + w.length ≤ m → m ≤ 1000 → m + 1 < k → Way l o w → flow_Reached.l0 k l (T l) o (w.map up) = some (rc l) := by
  have hl := g.le
  induction m with
  | zero =>
    intro k o w hm _ hk hw
    obtain ⟨k, rfl⟩ : ∃ q, k = q + 1 := ⟨k - 1, by omega⟩
    obtain rfl : w = [] := List.length_eq_zero_iff.mp (by omega)
    rw [flow_Reached.l0, hw.fin g]
    exact ife (by simp) rfl
  | succ m ih =>
    intro k o w hm hm2 hk hw
    obtain ⟨k, rfl⟩ : ∃ q, k = q + 1 := ⟨k - 1, by omega⟩
    rcases List.eq_nil_or_concat w with rfl | ⟨w, x, rfl⟩
    · rw [flow_Reached.l0, hw.fin g]
      exact ife (by simp) rfl
    · rw [List.concat_eq_append] at hm hw ⊢
      rw [List.length_append] at hm
      have hm : 2 * cn o + (w.length + 1) ≤ m + 1 := hm
      have hx := (hw.on x (by simp)).lt g
      have hlen : ((w ++ [x]).map up).length = w.length + 1 := by simp
      have e : wrap64 ((((w ++ [x]).map up).length : Int) - 1) = (w.length : Int) := by rw [hlen]; unfold wrap64; omega
      have hr : rd ((w ++ [x]).map up) (w.length : Int) = (x : Int) := by rw [rdI _ _ (by rw [hlen]; omega), List.getElem_map, List.getElem_append_right (Nat.le_refl _)]; simp
      have ht : ((w ++ [x]).map up).take ((w.length : Int) : Int).toNat = w.map up := by
        rw [Int.toNat_natCast, List.map_append, List.take_append_of_le_length (by simp), List.take_of_length_le (by simp)]
      have ho := hw.len
      rw [flow_Reached.l0, e, hr, ht, hlen]
      refine ift (by omega) (ift (by omega) (ift (by omega) (ift (by omega) (bs rfl (ift (by omega) (ift (by omega) ?_))))))
      by_cases hb : o.getD x false = true
      · refine ift hb (ih k o w (by omega) (by omega) (by omega) ⟨ho, fun y hy => hw.on y (by simp [hy]), fun i hi hi2 => ?_, ?_⟩)
        · refine ⟨(hw.ok i hi hi2).1, fun j hj => ?_⟩
          rcases (hw.ok i hi hi2).2 j hj with a | a
          · exact Or.inl a
          · rw [List.mem_append, List.mem_singleton] at a
            rcases a with a | rfl
            · exact Or.inr a
            · exact Or.inl hb
        · rcases hw.zero with a | a
          · exact Or.inl a
          · rw [List.mem_append, List.mem_singleton] at a
            rcases a with a | rfl
            · exact Or.inr a
            · exact Or.inl hb
      · have hb := Bool.eq_false_iff.mpr hb
        have h2 := (nx_two g hx).1
        have hc := cn_set (by omega) hb
        have hrx : rdOf false o (x : Int) = false := hb
        rw [hrx]
        refine ife nt (bs (next_f l g k x hx (by omega)) (bs (concat_f _ _ (by simp; omega) (by simp; omega)) ?_))
        rw [Int.toNat_natCast, ← List.map_append]
        refine ih k (o.set x true) (w ++ nx l x) (by rw [List.length_append]; omega) (by omega) (by omega) ⟨by rw [List.length_set]; exact ho, fun y hy => ?_, fun i hi hi2 => ?_, ?_⟩
        · rw [List.mem_append] at hy
          rcases hy with hy | hy
          · exact hw.on y (by simp [hy])
          · exact .step (hw.on x (by simp)) hy
        · rw [set_at _ _ _ (by omega)] at hi2
          by_cases e : x = i
          · subst e
            exact ⟨hw.on x (by simp), fun j hj => Or.inr (by simp [hj])⟩
          · rw [if_neg e] at hi2
            refine ⟨(hw.ok i hi hi2).1, fun j hj => ?_⟩
            rw [set_at _ _ _ (by omega)]
            by_cases e2 : x = j
            · rw [if_pos e2]; exact Or.inl rfl
            · rw [if_neg e2]
              rcases (hw.ok i hi hi2).2 j hj with a | a
              · exact Or.inl a
              · rw [List.mem_append, List.mem_singleton] at a
                rcases a with a | a
                · exact Or.inr (by simp [a])
                · exact absurd a.symm e2
        · rw [set_at _ _ _ (by omega)]
          by_cases e2 : x = 0
          · rw [if_pos e2]; exact Or.inl rfl
          · rw [if_neg e2]
            rcases hw.zero with a | a
            · exact Or.inl a
            · rw [List.mem_append, List.mem_singleton] at a
              rcases a with a | a
              · exact Or.inr (by simp [a])
              · exact absurd a.symm e2
theorem reached_f (l : List S42) (g : Fine l) (k : Nat) (hk : 1000 ≤ k) : flow_Reached.f k l (T l) = some (rc l) := by
  have hl := g.le
  have hp := g.pos
  have hz : ∀ i, (List.replicate l.length false).getD i false = false := by
    intro i
    rw [List.getD_eq_getElem?_getD, List.getElem?_replicate]; split <;> rfl
  unfold flow_Reached.f
  rw [Int.toNat_natCast]
  refine ift (by omega) (ift (by omega) (bs rfl (ife (by omega) ?_)))
  refine reached_l l g 600 k _ [0] (by have := cn_le (List.replicate l.length false); rw [List.length_replicate] at this; simp; omega) (by omega) (by omega) ⟨by simp, fun x hx => ?_, fun i hi h => ?_, Or.inr (by simp)⟩
  · obtain rfl : x = 0 := by simpa using hx
    exact .zero
  · rw [hz] at h; exact absurd h nt
end Go.Proofs.Ytkcneaaoghgllaa.C06
