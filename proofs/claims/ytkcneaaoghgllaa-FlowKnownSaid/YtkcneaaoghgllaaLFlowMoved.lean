/- FlowMoved, without Go. -/
import Derived.Test.YtkcneaaoghgllaaC06n
import Derived.Test.YtkcneaaoghgllaaPA10
import Derived.Test.YtkcneaaoghgllaaPA23
set_option linter.unusedVariables false
set_option linter.unusedSimpArgs false
set_option linter.unusedSectionVars false
namespace Go.Proofs.Ytkcneaaoghgllaa.LFlowMoved
open Go.RowKit Go.Proofs.YtkcneaaoghgllaaW.PrintWords Go.Proofs.YtkcneaaoghgllaaW.PrintLast Go.Proofs.YtkcneaaoghgllaaW.PrintMore Go.Proofs.Ytkcneaaoghgllaa.PA Go.Proofs.Ytkcneaaoghgllaa.Bv Go.Proofs.Ytkcneaaoghgllaa.C06
theorem pick41 (a : Int) : ∃ n : Nat, n < 41 ∧ lockgatekit_Pick.f a 41 = some (n : Int) := by
  unfold lockgatekit_Pick.f
  have h1 := Int.tmod_lt_of_pos a (show (0 : Int) < 41 by decide)
  have h2 : -41 < Int.tmod a 41 := by
    have := Int.tmod_lt_of_pos (-a) (show (0 : Int) < 41 by decide)
    rw [Int.neg_tmod] at this; omega
  by_cases h : Int.tmod a 41 < 0
  · refine ⟨(Int.tmod a 41 + 41).toNat, by omega, ife (by decide) (ife (by decide) (ift h ?_))⟩
    congr 1; unfold wrap64; omega
  · refine ⟨(Int.tmod a 41).toNat, by omega, ife (by decide) (ife (by decide) (ife h ?_))⟩
    congr 1; omega
/-- what stands ahead: nothing that jumps. -/
def mv (i : Nat) : S42 := ⟨183, 0, 0, 0, (i : Int)⟩
def pre (n : Nat) : List S42 := (List.range n).map mv
theorem pre_len (n : Nat) : (pre n).length = n := by simp [pre]
def Calm (p : List S42) : Prop := ∀ x, x ∈ p → x.f0 = 183
theorem pre_calm (n : Nat) : Calm (pre n) := by
  intro x hx
  obtain ⟨i, _, rfl⟩ := List.mem_map.mp hx
  rfl
theorem calm_J {x : S42} (h : x.f0 = 183) : J x = false := by unfold J; rw [h]; decide
theorem calm_is {x : S42} (h : x.f0 = 183) (o : Int) : isx x o = false := by unfold isx; rw [h]; exact if_neg (by decide)
theorem calm_sz {x : S42} (h : x.f0 = 183) : sz x = 1 := by unfold sz; rw [h]; exact if_neg (by decide)
theorem getD_r (p l : List S42) (i : Nat) : (p ++ l).getD (p.length + i) no = l.getD i no := by
  rw [List.getD_eq_getElem?_getD, List.getD_eq_getElem?_getD, List.getElem?_append_right (by omega)]
  congr 2; omega
theorem getD_l (p l : List S42) (i : Nat) (h : i < p.length) : (p ++ l).getD i no = p[i] := by
  rw [List.getD_eq_getElem?_getD, List.getElem?_append_left h, List.getElem?_eq_getElem h]; rfl
theorem slot_r (p l : List S42) (hp : Calm p) (i : Nat) : slot (p ++ l) (p.length + i) = p.length + slot l i := by
  induction p with
  | nil => simp
  | cons x p ih =>
    rw [List.length_cons, show p.length + 1 + i = (p.length + i) + 1 by omega, List.cons_append, slot_cons, ih (fun y hy => hp y (by simp [hy])), calm_sz (hp x (by simp))]
    omega
theorem aim_r (p l : List S42) (hp : Calm p) (i : Nat) : aim (p ++ l) (p.length + i) = (p.length : Int) + aim l i := by
  unfold aim
  rw [getD_r, Nat.add_assoc, slot_r p l hp]; omega
theorem tt_r {p l : List S42} (hp : Calm p) (g : Fine l) (i : Nat) (hi : i < l.length) : (tt l i < 0 → tt (p ++ l) (p.length + i) = -1) ∧ (0 ≤ tt l i → tt (p ++ l) (p.length + i) = tt l i + (p.length : Int)) ∧ bad (p ++ l) (p.length + i) = false := by
  have ha := aim_r p l hp i
  rcases g.tt i hi with ⟨hj, k, hk, hs, he⟩ | ⟨hj, he⟩
  · have haim : aim l i = (slot l k : Int) := by unfold aim; rw [getD_get l i hi]; exact hs.symm
    have ht : tgt (p ++ l) (p.length + i) = ((p.length + k : Nat) : Int) := by
      rcases tgt_spec (p ++ l) (p.length + i) with ⟨q, hq, h1, h2⟩ | ⟨h1, _⟩
      · have : slot (p ++ l) q = slot (p ++ l) (p.length + k) := by rw [slot_r p l hp]; omega
        rw [h2, slot_inj _ this]
      · exact absurd (by rw [slot_r p l hp]; omega) (h1 (p.length + k) (by rw [List.length_append]; omega))
    have hJ : J ((p ++ l).getD (p.length + i) no) = true := by rw [getD_r, getD_get l i hi]; exact hj
    refine ⟨fun h => by omega, fun _ => ?_, ?_⟩
    · rw [he]; unfold tt; rw [if_pos hJ, ht]; omega
    · unfold bad; rw [ht, hJ, Bool.true_and]; exact decide_eq_false (by omega)
  · have hJ : J ((p ++ l).getD (p.length + i) no) = false := by rw [getD_r, getD_get l i hi]; exact hj
    refine ⟨fun _ => ?_, fun h => by omega, ?_⟩
    · unfold tt; rw [hJ, if_neg nt]
    · unfold bad; rw [hJ, Bool.false_and]
theorem good_r {p l : List S42} (hp : Calm p) (g : Fine l) (hl : p.length + l.length ≤ 256) : Fine (p ++ l) := by
  have h1 := g.pos
  refine ⟨by rw [List.length_append]; omega, by rw [List.length_append]; omega, fun j hj => ?_, ?_⟩
  · rw [List.length_append] at hj
    by_cases h : j < p.length
    · unfold bad
      rw [getD_l p l j h, calm_J (hp _ (List.getElem_mem h)), Bool.false_and]
    · obtain ⟨i, rfl⟩ : ∃ i, j = p.length + i := ⟨j - p.length, by omega⟩
      exact (tt_r hp g i (by omega)).2.2
  · have hf := g.fin
    unfold ends at hf ⊢
    rw [List.length_append, show p.length + l.length - 1 = p.length + (l.length - 1) by omega, getD_r]
    exact hf
theorem nx_l {p l : List S42} (hp : Calm p) (i : Nat) (h : i < p.length) : nx (p ++ l) i = [i + 1] := by
  have hx := hp _ (List.getElem_mem h)
  have hg := getD_l p l i h
  unfold nx
  rw [hg, calm_is hx, calm_is hx, if_neg nt, if_neg nt, if_pos]
  unfold tt
  rw [hg, calm_J hx, if_neg nt]; decide
theorem nx_r {p l : List S42} (hp : Calm p) (g : Fine l) (i : Nat) (hi : i < l.length) : nx (p ++ l) (p.length + i) = (nx l i).map (p.length + ·) := by
  have ht := tt_r hp g i hi
  unfold nx
  rw [getD_r]
  by_cases h9 : isx (l.getD i no) 9 = true
  · rw [if_pos h9, if_pos h9]; rfl
  · rw [if_neg h9, if_neg h9]
    by_cases hn : tt l i < 0
    · have e := ht.1 hn
      by_cases h0 : isx (l.getD i no) 0 = true
      · rw [getD_get l i hi] at h0
        obtain ⟨k, _, he⟩ := g.tja hi h0
        omega
      · rw [if_neg h0, if_neg h0, e, if_pos hn, if_pos (c := (-1 : Int) < 0) (by decide)]; rfl
    · have e := ht.2.1 (by omega)
      have en : (tt l i + (p.length : Int)).toNat = p.length + (tt l i).toNat := by omega
      by_cases h0 : isx (l.getD i no) 0 = true
      · rw [if_pos h0, if_pos h0, e, en]; rfl
      · rw [if_neg h0, if_neg h0, e, if_neg hn, if_neg (c := tt l i + (p.length : Int) < 0) (by omega)]
        by_cases h1 : tt l i = (i : Int) + 1
        · rw [if_pos h1, if_pos (by omega)]; rfl
        · rw [if_neg h1, if_neg (by omega), en]; rfl
theorem rch_l {p l : List S42} (hp : Calm p) (i : Nat) (h : i ≤ p.length) : Rch (p ++ l) i := by
  induction i with
  | zero => exact .zero
  | succ i ih => exact .step (ih (by omega)) (by rw [nx_l hp i (by omega)]; simp)
theorem rch_r {p l : List S42} (hp : Calm p) (g : Fine l) (i : Nat) : Rch (p ++ l) (p.length + i) ↔ Rch l i := by
  constructor
  · intro h
    have key : ∀ j, Rch (p ++ l) j → ∀ i, j = p.length + i → Rch l i := by
      intro j hj
      induction hj with
      | zero =>
        intro i hi
        obtain rfl : i = 0 := by omega
        exact .zero
      | step r m ih =>
        rename_i a b
        intro i hi
        subst hi
        by_cases h : a < p.length
        · rw [nx_l hp a h] at m
          have m := List.mem_singleton.mp m
          obtain rfl : i = 0 := by omega
          exact .zero
        · obtain ⟨q, rfl⟩ : ∃ q, a = p.length + q := ⟨a - p.length, by omega⟩
          have hq := ih q rfl
          rw [nx_r hp g q (hq.lt g)] at m
          obtain ⟨y, hy, e⟩ := List.mem_map.mp m
          obtain rfl : y = i := by omega
          exact .step hq hy
    exact key _ h i rfl
  · intro h
    induction h with
    | zero => exact rch_l hp _ (Nat.le_refl _)
    | step r m ih => exact .step ih (by rw [nx_r hp g _ (r.lt g)]; exact List.mem_map.mpr ⟨_, m, rfl⟩)
theorem rc_r {p l : List S42} (hp : Calm p) (g : Fine l) (i : Nat) (hi : i < l.length) : (rc (p ++ l)).getD (p.length + i) false = (rc l).getD i false := by
  rw [Bool.eq_iff_iff, rc_at _ _ (by rw [List.length_append]; omega), rc_at _ _ hi]
  exact rch_r hp g i
theorem moved_2 (p l : List S42) (hp : Calm p) (g : Fine l) (hl : p.length + l.length ≤ 256) (d : Nat) : ∀ (k i : Nat), i + d = l.length → d + 100 < k →
    lockgatelaw06_FlowMoved.l2 k (p.length : Int) (T l) (T (p ++ l)) (rc l) (rc (p ++ l)) (i : Int) = some true := by
  have gm := good_r hp g hl
  have t1 := T_len l
  have t2 := T_len (p ++ l)
  have r1 := rc_len l
  have r2 := rc_len (p ++ l)
  rw [List.length_append] at t2 r2
  induction d with
  | zero =>
    intro k i hi hk
    obtain ⟨k, rfl⟩ : ∃ m, k = m + 1 := ⟨k - 1, by omega⟩
    rw [lockgatelaw06_FlowMoved.l2]
    exact ife (by omega) (bs (works_f k (by omega)) rfl)
  | succ d ih =>
    intro k i hi hk
    obtain ⟨k, rfl⟩ : ∃ m, k = m + 1 := ⟨k - 1, by omega⟩
    have hlt : i < l.length := by omega
    have e : wrap64 ((p.length : Int) + (i : Int)) = ((p.length + i : Nat) : Int) := by unfold wrap64; omega
    have hrr : rdOf false (rc l) (i : Int) = rdOf false (rc (p ++ l)) ((p.length + i : Nat) : Int) := (rc_r hp g i hlt).symm
    have ht := tt_r hp g i hlt
    rw [lockgatelaw06_FlowMoved.l2, e, rdTT l i hlt, rdTT (p ++ l) (p.length + i) (by rw [List.length_append]; omega), hrr, bne_self_eq_false, w64u (by omega), ih k (i + 1) (by omega) (by omega)]
    refine ift (by omega) (ift (by omega) ?_)
    rcases g.tlt hlt with h | ⟨q, hq, h⟩
    · rw [ht.1 (by omega), h]
      exact ift (by decide) (ift (by omega) (ift (by omega) (ift rfl (ife (by decide) (ift (by omega) (ift (by omega) (ife nt rfl)))))))
    · rw [ht.2.1 (by omega), h]
      have e2 : wrap64 ((q : Int) + (p.length : Int)) = (q : Int) + (p.length : Int) := by unfold wrap64; omega
      have c1 : ¬ (q : Int) < 0 := by omega
      have c2 : (q : Int) ≥ 0 := by omega
      have c3 : 0 ≤ ((p.length + i : Nat) : Int) := Int.natCast_nonneg _
      have c4 : ((p.length + i : Nat) : Int) < ((T (p ++ l)).length : Int) := by omega
      have c5 : (i : Int) < ((rc l).length : Int) := by omega
      have c6 : ((p.length + i : Nat) : Int) < ((rc (p ++ l)).length : Int) := by omega
      rw [e2]
      exact ife c1 (ift c2 (ift c3 (ift c4 (ift rfl (ift c5 (ift c6 (ife nt rfl)))))))
theorem moved_1 (l : List S42) (n : Nat) (hn : n ≤ 40) (ho : offs l) (hl : l.length ≤ 200) (d : Nat) : ∀ (k i : Nat), i + d = l.length → d + 3000 < k →
    lockgatelaw06_FlowMoved.l1 k l (n : Int) (pre n ++ l.take i) (i : Int) = some true := by
  have hpl := pre_len n
  induction d with
  | zero =>
    intro k i hi hk
    obtain ⟨k, rfl⟩ : ∃ m, k = m + 1 := ⟨k - 1, by omega⟩
    rw [lockgatelaw06_FlowMoved.l1, List.take_of_length_le (by omega)]
    have hom : offs (pre n ++ l) := by
      intro x hx
      rcases List.mem_append.mp hx with hx | hx
      · obtain ⟨i, _, rfl⟩ := List.mem_map.mp hx
        exact ⟨show (-32768 : Int) ≤ 0 by decide, show (0 : Int) ≤ 32767 by decide⟩
      · exact ho x hx
    refine ife (by omega) (bs (targets_f k l (by omega) ho) (bs (targets_f k _ (by omega) hom) ?_))
    rcases tg_cases l with ⟨g, he⟩ | ⟨h0, _⟩
    · have gm := good_r (pre_calm n) g (by omega)
      rcases tg_cases (pre n ++ l) with ⟨_, hem⟩ | ⟨h0, h1, h2, h3⟩
      · obtain ⟨k, rfl⟩ : ∃ m, k = m + 1 := ⟨k - 1, by omega⟩
        rw [he, hem]
        refine ift rfl (ift rfl ?_)
        have e : (((T (pre n ++ l)).length : Int) != wrap64 ((n : Int) + ((T l).length : Int))) = false := by
          rw [bne_eq_false_iff_eq, T_len, T_len, List.length_append]; unfold wrap64; omega
        show lockgatelaw06_FlowMoved.j3 (k + 1) l (n : Int) (pre n ++ l) (T l) (T (pre n ++ l)) (((T (pre n ++ l)).length : Int) != wrap64 ((n : Int) + ((T l).length : Int))) = _
        rw [e, lockgatelaw06_FlowMoved.j3]
        refine ife nt (bs (reached_f l g k (by omega)) (bs (reached_f _ gm k (by omega)) ?_))
        have := moved_2 (pre n) l (pre_calm n) g (by omega) l.length k 0 (by omega) (by omega)
        rw [hpl] at this
        exact this
      · have hb : ∀ i, i < (pre n ++ l).length → bad (pre n ++ l) i = false := gm.ok
        exfalso
        have hp := gm.pos
        have hle := gm.le
        apply h0
        unfold tg
        rw [if_neg (by omega), if_neg (by omega), if_neg, if_pos gm.fin]
        intro ha
        obtain ⟨j, hj, hj2⟩ := List.any_eq_true.mp ha
        rw [List.mem_range'_1] at hj
        rw [gm.ok j (by omega)] at hj2
        exact absurd hj2 nt
    · exact ife h0 (bs (works_f k (by omega)) rfl)
  | succ d ih =>
    intro k i hi hk
    obtain ⟨k, rfl⟩ : ∃ m, k = m + 1 := ⟨k - 1, by omega⟩
    have hlt : i < l.length := by omega
    have ea : (pre n ++ l.take i) ++ [(⟨l[i].f0, l[i].f1, l[i].f2, l[i].f3, l[i].f4⟩ : S42)] = pre n ++ l.take (i + 1) := by
      rw [List.take_succ_eq_append_getElem hlt, List.append_assoc]
    rw [lockgatelaw06_FlowMoved.l1, rdT l i hlt, ea, w64u (by omega), ih k (i + 1) (by omega) (by omega)]
    exact ift (by omega) (ift (by omega) (ift (by rw [List.length_append, List.length_take]; omega) rfl))
theorem moved_0 (l : List S42) (n : Nat) (hn : n ≤ 40) (ho : offs l) (hl : l.length ≤ 200) (d : Nat) : ∀ (k i : Nat), i + d = n → d + 4000 < k →
    lockgatelaw06_FlowMoved.l0 k l (n : Int) (pre i) (i : Int) = some true := by
  induction d with
  | zero =>
    intro k i hi hk
    obtain ⟨k, rfl⟩ : ∃ m, k = m + 1 := ⟨k - 1, by omega⟩
    obtain rfl : i = n := by omega
    rw [lockgatelaw06_FlowMoved.l0]
    have := moved_1 l i hn ho hl l.length k 0 (by omega) (by omega)
    rw [List.take_zero, List.append_nil] at this
    exact ife (by omega) this
  | succ d ih =>
    intro k i hi hk
    obtain ⟨k, rfl⟩ : ∃ m, k = m + 1 := ⟨k - 1, by omega⟩
    have ea : pre i ++ [(⟨183, 0, 0, 0, (i : Int)⟩ : S42)] = pre (i + 1) := by
      unfold pre; rw [List.range_succ, List.map_append]; rfl
    rw [lockgatelaw06_FlowMoved.l0, ea, w64u (by omega), ih k (i + 1) (by omega) (by omega)]
    exact ift (by omega) (ift (by rw [pre_len]; omega) rfl)
theorem law (k : Nat) (l : List S42) (a : Int) (hm : l.length ≤ 9223372036854775807) (hk : l.length + 10000 ≤ k) : lockgatelaw06_FlowMoved.f k l a = some true := by
  have hj : ∀ q : Bool, (q = false → offs l ∧ l.length ≤ 200) → lockgatelaw06_FlowMoved.j0 k l a q = some true := by
    intro q hq
    obtain ⟨k, rfl⟩ : ∃ m, k = m + 1 := ⟨k - 1, by omega⟩
    rw [lockgatelaw06_FlowMoved.j0]
    cases q with
    | true => exact ift rfl (bs (works_f k (by omega)) rfl)
    | false =>
      obtain ⟨n, hn, he⟩ := pick41 a
      obtain ⟨ho, hl⟩ := hq rfl
      exact ife nt (bs he (moved_0 l n (by omega) ho hl n k 0 (by omega) (by omega)))
  unfold lockgatelaw06_FlowMoved.f
  refine bs (right_f k l hm (by omega)) ?_
  by_cases hr : R l = true
  · obtain ⟨_, ho, hl⟩ := R_all hr
    exact ift hr (hj _ (fun h => ⟨ho, by have := of_decide_eq_false h; omega⟩))
  · exact ife hr (hj true (fun h => absurd h (by decide)))
theorem pure (l0 : List S42) (a1 : Int) (hm : l0.length ≤ maxLen) (hw : ∀ x ∈ l0, (Lit.int .i64 x.f0).wf = true ∧ (Lit.int .i64 x.f1).wf = true ∧ (Lit.int .i64 x.f2).wf = true ∧ (Lit.int .i64 x.f3).wf = true ∧ (Lit.int .i64 x.f4).wf = true) (w1 : (Lit.int .i64 a1).wf = true) :
    ∃ k, lockgatelaw06_FlowMoved.f k l0 a1 = some true := ⟨_, law _ l0 a1 (by simpa [maxLen] using hm) (Nat.le_refl _)⟩
end Go.Proofs.Ytkcneaaoghgllaa.LFlowMoved
