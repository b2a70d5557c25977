/- Layer 6: the document's answers. -/
import Derived.Test.YtkcneaaoghgllaaC06n
import Derived.Test.YtkcneaaoghgllaaPA5
import Derived.Test.YtkcneaaoghgllaaPA11
import Derived.Test.YtkcneaaoghgllaaPA12
import Derived.Test.YtkcneaaoghgllaaPA13
import Derived.Test.YtkcneaaoghgllaaPA14
import Derived.Test.YtkcneaaoghgllaaPA15
set_option linter.unusedVariables false
set_option linter.unusedSimpArgs false
set_option linter.unusedSectionVars false
namespace Go.Proofs.Ytkcneaaoghgllaa.C06
open Go.RowKit Go.Proofs.YtkcneaaoghgllaaW.PrintWords Go.Proofs.YtkcneaaoghgllaaW.PrintLast Go.Proofs.YtkcneaaoghgllaaW.PrintMore Go.Proofs.Ytkcneaaoghgllaa.PA Go.Proofs.Ytkcneaaoghgllaa.Bv
def op1 (n : Nat) : Bool := decide (Go.bits .and .i64 (n : Int) 7 = Int.tmod (n : Int) 8) && decide ((n : Int) / 16 = wrap64 (Int.tdiv (n : Int) 16))
set_option maxRecDepth 100000 in
theorem op_all : ((List.range 256).all op1) = true := by decide +kernel
/-- an operation of a byte. -/
def byt (x : S42) : Prop := 0 ≤ x.f0 ∧ x.f0 ≤ 255
theorem op_ok {x : S42} (h : byt x) : Int.tmod x.f0 8 = Go.bits .and .i64 x.f0 7 ∧ wrap64 (Int.tdiv x.f0 16) = x.f0 / 16 := by
  obtain ⟨h0, h1⟩ := h
  obtain ⟨n, hn⟩ := Int.eq_ofNat_of_zero_le h0
  have := (List.all_eq_true.mp op_all) n (by rw [List.mem_range]; omega)
  unfold op1 at this
  rw [Bool.and_eq_true] at this
  rw [hn]
  exact ⟨(of_decide_eq_true this.1).symm, (of_decide_eq_true this.2).symm⟩
theorem rop_f {x : S42} (h : byt x) : lockgateref06_Op.f x.f0 x.f1 x.f2 x.f3 x.f4 = some (if Go.bits .and .i64 x.f0 7 = 5 then x.f0 / 16 else if Go.bits .and .i64 x.f0 7 = 6 then x.f0 / 16 else -1) := by
  unfold lockgateref06_Op.f
  rw [(op_ok h).1, (op_ok h).2]
  split
  · rfl
  · split <;> rfl
theorem rjumps_f {x : S42} (h : byt x) : lockgateref06_Jumps.f x.f0 x.f1 x.f2 x.f3 x.f4 = some (J x) := by
  have hp : 0 ≤ x.f0 / 16 := Int.ediv_nonneg h.1 (by decide)
  unfold lockgateref06_Jumps.f
  refine bs (rop_f h) ?_
  unfold J
  by_cases a : Go.bits .and .i64 x.f0 7 = 5
  · rw [if_pos a, if_pos a]
    refine ift hp ?_
    split <;> rfl
  · rw [if_neg a, if_neg a]
    by_cases b : Go.bits .and .i64 x.f0 7 = 6
    · rw [if_pos b, if_pos b]
      refine ift hp ?_
      split <;> rfl
    · rw [if_neg b, if_neg b]; exact ife (by decide) rfl
theorem rexit_f {x : S42} (h : byt x) : lockgateref06_Exit.f x.f0 x.f1 x.f2 x.f3 x.f4 = some (isx x 9) := by
  unfold lockgateref06_Exit.f isx
  rw [(op_ok h).1, (op_ok h).2]
  split <;> rfl
theorem rja_f {x : S42} (h : byt x) : lockgateref06_Ja.f x.f0 x.f1 x.f2 x.f3 x.f4 = some (isx x 0) := by
  unfold lockgateref06_Ja.f isx
  rw [(op_ok h).1, (op_ok h).2]
  split <;> rfl
theorem rsize_f (x : S42) : lockgateref02_Size.f x.f0 x.f1 x.f2 x.f3 x.f4 = some (sz x : Int) := by
  unfold lockgateref02_Size.f sz
  by_cases h : x.f0 = 24
  · rw [if_pos h, if_pos h]; rfl
  · rw [if_neg h, if_neg h]; rfl
theorem slot_l0 (l : List S42) (hl : l.length ≤ 1000) (n : Nat) (hn : n ≤ l.length) (d : Nat) : ∀ (k i : Nat), i + d = n → d < k → lockgateref06_Slot.l0 k l (n : Int) (slot l i : Int) (i : Int) = some (slot l n : Int) := by
  induction d with
  | zero =>
    intro k i hi hk
    obtain ⟨k, rfl⟩ : ∃ m, k = m + 1 := ⟨k - 1, by omega⟩
    obtain rfl : i = n := by omega
    rw [lockgateref06_Slot.l0]
    exact ife (by omega) rfl
  | succ d ih =>
    intro k i hi hk
    obtain ⟨k, rfl⟩ : ∃ m, k = m + 1 := ⟨k - 1, by omega⟩
    have hs := slot_succ l i (by omega)
    have hb := slot_le l (i + 1)
    have e : wrap64 ((slot l i : Int) + (sz (l[i]'(by omega)) : Int)) = (slot l (i + 1) : Int) := by unfold wrap64; omega
    rw [lockgateref06_Slot.l0, rdT l i (by omega)]
    refine ift (by omega) (ift (by omega) (ift (by omega) (bs (rsize_f _) ?_)))
    rw [e, w64u (by omega)]
    exact ih k (i + 1) (by omega) (by omega)
theorem slot_f (l : List S42) (hl : l.length ≤ 1000) (n : Nat) (hn : n ≤ l.length) (k : Nat) (hk : n < k) : lockgateref06_Slot.f k l (n : Int) = some (slot l n : Int) := slot_l0 l hl n hn n k 0 (by omega) hk
theorem target_l0 (l : List S42) (hl : l.length ≤ 1000) (i : Nat) (d : Nat) : ∀ (k p : Nat), p + d = l.length → d + 1001 < k → (∀ q, q < p → (slot l q : Int) ≠ aim l i) → lockgateref06_Target.l0 k l (aim l i) (p : Int) = some (tgt l i) := by
  induction d with
  | zero =>
    intro k p hp hk h
    obtain ⟨k, rfl⟩ : ∃ m, k = m + 1 := ⟨k - 1, by omega⟩
    rw [lockgateref06_Target.l0]
    refine ife (by omega) ?_
    rcases tgt_spec l i with ⟨q, hq, hs, _⟩ | ⟨_, hv⟩
    · exact absurd hs (h q (by omega))
    · rw [hv]
  | succ d ih =>
    intro k p hp hk h
    obtain ⟨k, rfl⟩ : ∃ m, k = m + 1 := ⟨k - 1, by omega⟩
    rw [lockgateref06_Target.l0]
    refine ift (by omega) (bs (slot_f l hl p (by omega) k (by omega)) ?_)
    by_cases e : (slot l p : Int) = aim l i
    · refine ift e ?_
      rcases tgt_spec l i with ⟨q, hq, hs, hv⟩ | ⟨hn, _⟩
      · obtain rfl : q = p := slot_inj l (by omega)
        rw [hv]
      · exact absurd e (hn p (by omega))
    · refine ife e ?_
      rw [w64u (by omega)]
      refine ih k (p + 1) (by omega) (by omega) (fun q hq => ?_)
      by_cases eq : q = p
      · subst eq; exact e
      · exact h q (by omega)
theorem target_f (l : List S42) (hl : l.length ≤ 1000) (ho : offs l) (i : Nat) (hi : i < l.length) (k : Nat) (hk : 2002 < k) : lockgateref06_Target.f k l (i : Int) = some (tgt l i) := by
  have hs := slot_succ l i hi
  have hb := slot_le l (i + 1)
  have hof := ho l[i] (List.getElem_mem hi)
  have e : wrap64 (wrap64 ((slot l i : Int) + (sz l[i] : Int)) + l[i].f3) = aim l i := by unfold aim; rw [getD_get l i hi]; unfold wrap64; omega
  unfold lockgateref06_Target.f
  rw [rdT l i hi]
  refine bs (slot_f l hl i (by omega) k (by omega)) (ift (by omega) (ift (by omega) (bs (rsize_f _) ?_)))
  rw [e]
  exact target_l0 l hl i l.length k 0 (by omega) (by omega) (fun q hq => by omega)
theorem rtargets_l (l : List S42) (hl : l.length ≤ 256) (h1 : 0 < l.length) (hb : ∀ x, x ∈ l → byt x) (ho : offs l) (d : Nat) : ∀ (k i : Nat), i + d = l.length → d + 3000 < k →
    lockgateref06_Targets.l0 k l ((List.range i).map (tt l)) (i : Int) = some (if (List.range' i d).any (bad l) = true then ([], 7) else if ends l = true then (T l, 0) else ([], 8)) := by
  induction d with
  | zero =>
    intro k i hi hk
    obtain ⟨k, rfl⟩ : ∃ m, k = m + 1 := ⟨k - 1, by omega⟩
    have e : wrap64 ((l.length : Int) - 1) = ((l.length - 1 : Nat) : Int) := by unfold wrap64; omega
    have hbl := hb (l[l.length - 1]'(by omega)) (List.getElem_mem _)
    obtain rfl : i = l.length := by omega
    rw [lockgateref06_Targets.l0, e, rdT l (l.length - 1) (by omega), List.range'_zero, List.any_nil]
    refine ife (by omega) (ift (by omega) (ift (by omega) (bs (rexit_f hbl) ?_)))
    rw [if_neg nt, ends, getD_get l _ (by omega)]
    by_cases h9 : isx (l[l.length - 1]) 9 = true
    · rw [h9]; exact ift rfl (by rw [Bool.true_or, if_pos rfl])
    · refine ife h9 (bs (rja_f hbl) ?_)
      rw [Bool.eq_false_iff.mpr h9, Bool.false_or]
      by_cases h0 : isx (l[l.length - 1]) 0 = true
      · refine ift h0 (by rw [if_pos h0])
      · refine ife h0 (by rw [if_neg h0])
  | succ d ih =>
    intro k i hi hk
    obtain ⟨k, rfl⟩ : ∃ m, k = m + 1 := ⟨k - 1, by omega⟩
    have hlt : i < l.length := by omega
    have ea : (List.range i).map (tt l) ++ [tt l i] = (List.range (i + 1)).map (tt l) := by rw [List.range_succ, List.map_append]; rfl
    rw [lockgateref06_Targets.l0, rdT l i hlt, List.range'_succ, List.any_cons]
    refine ift (by omega) (ift (by omega) (bs (rjumps_f (hb _ (List.getElem_mem hlt))) ?_))
    rw [w64u (by omega)]
    by_cases hj : J l[i] = true
    · refine ift hj (bs (target_f l (by omega) ho i hlt k (by omega)) ?_)
      have ht : tt l i = tgt l i := by unfold tt; rw [getD_get l i hlt, if_pos hj]
      have hbd : bad l i = decide (tgt l i < 0) := by unfold bad; rw [getD_get l i hlt, hj, Bool.true_and]
      rw [hbd]
      by_cases hn : tgt l i < 0
      · refine ift hn ?_
        rw [decide_eq_true hn, Bool.true_or, if_pos rfl]
      · refine ife hn (ift (by simp; omega) ?_)
        rw [decide_eq_false hn, Bool.false_or, ← ht, ea]
        exact ih k (i + 1) (by omega) (by omega)
    · have hj := Bool.eq_false_iff.mpr hj
      rw [hj]
      refine ife nt (ift (by simp; omega) ?_)
      have ht : tt l i = -1 := by unfold tt; rw [getD_get l i hlt, hj, if_neg nt]
      have hbd : bad l i = false := by unfold bad; rw [getD_get l i hlt, hj, Bool.false_and]
      rw [hbd, Bool.false_or, ← ht, ea]
      exact ih k (i + 1) (by omega) (by omega)
theorem rtargets_f (l : List S42) (hb : ∀ x, x ∈ l → byt x) (ho : offs l) (k : Nat) (hk : 4000 ≤ k) : lockgateref06_Targets.f k l = some (tg l) := by
  unfold lockgateref06_Targets.f tg
  by_cases h0 : l.length = 0
  · rw [if_pos h0]; exact ift (by omega) rfl
  · rw [if_neg h0]
    refine ife (by omega) ?_
    by_cases h1 : 256 < l.length
    · rw [if_pos h1]; exact ift (by omega) rfl
    · rw [if_neg h1]
      exact ife (by omega) (rtargets_l l (by omega) (by omega) hb ho l.length k 0 (by omega) (by omega))
theorem rnext_f (l : List S42) (g : Fine l) (hb : ∀ x, x ∈ l → byt x) (k i : Nat) (hi : i < l.length) (hk : 0 < k) : lockgateref06_Next.f k l (T l) (i : Int) = some ((nx l i).map up) := by
  obtain ⟨k, rfl⟩ : ∃ m, k = m + 1 := ⟨k - 1, by omega⟩
  have hl := g.le
  have ht := T_len l
  have hbi := hb _ (List.getElem_mem hi)
  unfold lockgateref06_Next.f nx
  rw [rdT l i hi, getD_get l i hi]
  refine ife (by omega) (ife (by omega) (ift (by omega) (ift (by omega) (bs (rexit_f hbi) ?_))))
  rw [lockgateref06_Next.j0]
  by_cases h9 : isx l[i] 9 = true
  · refine ift h9 ?_; rw [if_pos h9]; rfl
  · refine ife h9 (ift (by omega) (ift (by omega) ?_))
    rw [if_neg h9, rdT l i hi]
    refine bs (rja_f hbi) ?_
    rw [rdTT l i hi, w64u (by omega)]
    by_cases h0 : isx l[i] 0 = true
    · obtain ⟨q, hq, he⟩ := g.tja hi h0
      refine ift h0 (ift (by omega) ?_)
      rw [if_pos h0, he]
      exact ift (by omega) (bs (rja_f hbi) (ift h0 (ift (by simp) rfl)))
    · refine ife h0 (ift (by simp) (bs rfl (ift (by omega) ?_)))
      rw [if_neg h0]
      rcases g.tlt hi with he | ⟨q, hq, he⟩
      · rw [he]; refine ife (by decide) ?_; rw [if_pos (c := (-1 : Int) < 0) (by decide)]; rfl
      · rw [he]
        refine ift (by omega) (bs (rja_f hbi) (ife h0 ?_))
        rw [if_neg (c := (q : Int) < 0) (by omega)]
        by_cases e : (q : Int) = (i : Int) + 1
        · refine ift (by omega) ?_; rw [if_pos e]; rfl
        · refine ife (by omega) (ift (by simp) ?_); rw [if_neg e]; rfl
theorem rnext_out (l : List S42) (k : Nat) (i : Int) (hi : i < 0 ∨ i ≥ (l.length : Int)) (hk : 0 < k) : lockgateref06_Next.f k l (T l) i = some [] := by
  obtain ⟨k, rfl⟩ : ∃ m, k = m + 1 := ⟨k - 1, by omega⟩
  unfold lockgateref06_Next.f
  rw [lockgateref06_Next.j0]
  by_cases a : i < 0
  · exact ift a (ift rfl rfl)
  · exact ife a (ift (by omega) (ift rfl rfl))
/-- is an instruction jumped to by one of the first n? -/
def hd (l : List S42) (n j : Nat) : Bool := (List.range n).any (fun i => tt l i == (j : Int))
theorem hd_succ (l : List S42) (n j : Nat) : hd l (n + 1) j = (hd l n j || (tt l n == (j : Int))) := by
  unfold hd; rw [List.range_succ, List.any_append, List.any_cons, List.any_nil, Bool.or_false]
/-- all that are. -/
def hs (l : List S42) : List Bool := (List.range l.length).map (hd l l.length)
theorem heads_l (l : List S42) (g : Fine l) (d : Nat) : ∀ (k i : Nat) (o : List Bool), i + d = l.length → d < k → o.length = l.length → (∀ j, j < l.length → o.getD j false = hd l i j) →
    flow_Heads.l0 k o (T l) ((T l).length : Int) (i : Int) = some (hs l) := by
  have hl := g.le
  have ht := T_len l
  induction d with
  | zero =>
    intro k i o hi hk ho hf
    obtain ⟨k, rfl⟩ : ∃ m, k = m + 1 := ⟨k - 1, by omega⟩
    obtain rfl : i = l.length := by omega
    rw [flow_Heads.l0]
    refine ife (by omega) ?_
    congr 1
    apply List.ext_getElem (by rw [ho]; simp [hs])
    intro j h1 h2
    have a := hf j (by omega)
    rw [List.getD_eq_getElem?_getD, List.getElem?_eq_getElem h1] at a
    simp only [hs, List.getElem_map, List.getElem_range]
    exact a
  | succ d ih =>
    intro k i o hi hk ho hf
    obtain ⟨k, rfl⟩ : ∃ m, k = m + 1 := ⟨k - 1, by omega⟩
    rw [flow_Heads.l0, rdTT l i (by omega), w64u (by omega)]
    refine ift (by omega) (ift (by omega) (ift (by omega) ?_))
    rcases g.tlt (show i < l.length by omega) with he | ⟨q, hq, he⟩
    · rw [he]
      refine ife (by decide) (ih k (i + 1) o (by omega) (by omega) ho (fun j hj => ?_))
      rw [hf j hj, hd_succ, he, beq_eq_false_iff_ne.mpr (by omega), Bool.or_false]
    · rw [he]
      refine ift (by omega) (ift (by omega) (ift (by omega) ?_))
      rw [Int.toNat_natCast]
      refine ih k (i + 1) _ (by omega) (by omega) (by rw [List.length_set]; exact ho) (fun j hj => ?_)
      rw [set_at _ _ _ (by omega), hd_succ, he]
      by_cases e : q = j
      · rw [if_pos e, beq_iff_eq.mpr (by omega), Bool.or_true]
      · rw [if_neg e, beq_eq_false_iff_ne.mpr (by omega), Bool.or_false, hf j hj]
theorem heads_f (l : List S42) (g : Fine l) (k : Nat) (hk : 300 ≤ k) : flow_Heads.f k l (T l) = some (hs l) := by
  have hl := g.le
  unfold flow_Heads.f
  rw [Int.toNat_natCast]
  refine ift (by omega) (ift (by omega) (heads_l l g l.length k 0 _ (by omega) (by omega) (by simp) (fun j hj => ?_)))
  rw [List.getD_eq_getElem?_getD, List.getElem?_replicate]
  split <;> rfl
theorem rheads_1 (l : List S42) (hl : l.length ≤ 256) (i : Nat) (acc : List Bool) (ha : acc.length ≤ 256) (d : Nat) : ∀ (k p : Nat), p + d = l.length → lockgateref06_Heads.l1 (k + d + 1) l (T l) acc (i : Int) (hd l p i) (p : Int) = lockgateref06_Heads.l0 k l (T l) (acc ++ [hd l l.length i]) (wrap64 ((i : Int) + 1)) := by
  have ht := T_len l
  induction d with
  | zero =>
    intro k p hp
    obtain rfl : p = l.length := by omega
    rw [show k + 0 + 1 = k + 1 from rfl, lockgateref06_Heads.l1]
    exact ife (by omega) (ift (by omega) rfl)
  | succ d ih =>
    intro k p hp
    rw [show k + (d + 1) + 1 = (k + d + 1) + 1 from rfl, lockgateref06_Heads.l1, rdTT l p (by omega), w64u (n := p) (by omega), ← ih k (p + 1) (by omega), hd_succ]
    refine ift (by omega) ?_
    cases hd l p i with
    | true => exact ift rfl (by rw [Bool.true_or])
    | false => exact ife nt (ift (by omega) (by rw [Bool.false_or]))
theorem rheads_0 (l : List S42) (hl : l.length ≤ 256) (d : Nat) : ∀ (k i : Nat), i + d = l.length → 300 * d < k →
    lockgateref06_Heads.l0 k l (T l) ((List.range i).map (hd l l.length)) (i : Int) = some (hs l) := by
  induction d with
  | zero =>
    intro k i hi hk
    obtain ⟨k, rfl⟩ : ∃ m, k = m + 1 := ⟨k - 1, by omega⟩
    obtain rfl : i = l.length := by omega
    rw [lockgateref06_Heads.l0]
    exact ife (by omega) rfl
  | succ d ih =>
    intro k i hi hk
    obtain ⟨k, rfl⟩ : ∃ m, k = m + l.length + 1 + 1 := ⟨k - l.length - 2, by omega⟩
    rw [lockgateref06_Heads.l0]
    refine ift (by omega) ((rheads_1 l hl i _ (by simp; omega) l.length k 0 (by omega)).trans ?_)
    rw [w64u (by omega), show (List.range i).map (hd l l.length) ++ [hd l l.length i] = (List.range (i + 1)).map (hd l l.length) by rw [List.range_succ, List.map_append]; rfl]
    exact ih k (i + 1) (by omega) (by omega)
theorem rheads_f (l : List S42) (g : Fine l) (k : Nat) (hk : 80000 ≤ k) : lockgateref06_Heads.f k l (T l) = some (hs l) := by
  have hl := g.le
  exact rheads_0 l hl l.length k 0 (by omega) (by omega)
end Go.Proofs.Ytkcneaaoghgllaa.C06
