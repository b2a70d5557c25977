/- FlowLands, without Go. -/
import Derived.Test.YtkcneaaoghgllaaC06r
import Derived.Test.YtkcneaaoghgllaaPA21
set_option linter.unusedVariables false
set_option linter.unusedSimpArgs false
set_option linter.unusedSectionVars false
namespace Go.Proofs.Ytkcneaaoghgllaa.LFlowLands
open Go.RowKit Go.Proofs.YtkcneaaoghgllaaW.PrintWords Go.Proofs.YtkcneaaoghgllaaW.PrintLast Go.Proofs.YtkcneaaoghgllaaW.PrintMore Go.Proofs.Ytkcneaaoghgllaa.PA Go.Proofs.Ytkcneaaoghgllaa.Bv Go.Proofs.Ytkcneaaoghgllaa.C06
def last1 (n : Nat) : Bool := (if Go.bits .and .i64 (n : Int) 7 = 5 then ((n : Int) / 16 == 9 || (n : Int) / 16 == 0) else false) == (decide (Go.bits .and .i64 (n : Int) 247 = 149) || decide (Go.bits .and .i64 (n : Int) 247 = 5))
set_option maxRecDepth 100000 in
theorem last_all : ((List.range 256).all last1) = true := by decide +kernel
theorem last_ok (x : S42) (h0 : 0 ≤ x.f0) (h1 : x.f0 ≤ 255) (h : (isx x 9 || isx x 0) = true) : Go.bits .and .i64 x.f0 247 = 149 ∨ Go.bits .and .i64 x.f0 247 = 5 := by
  obtain ⟨n, hn⟩ := Int.eq_ofNat_of_zero_le h0
  have := (List.all_eq_true.mp last_all) n (by rw [List.mem_range]; omega)
  unfold last1 at this
  unfold isx at h
  rw [hn] at h ⊢
  have e : (if Go.bits .and .i64 (n : Int) 7 = 5 then ((n : Int) / 16 == 9 || (n : Int) / 16 == 0) else false) = true := by
    by_cases q : Go.bits .and .i64 (n : Int) 7 = 5
    · rw [if_pos q, if_pos q] at h; rw [if_pos q]; exact h
    · rw [if_neg q, if_neg q] at h; exact absurd h nt
  rw [e] at this
  have this := (beq_iff_eq.mp this).symm
  rw [Bool.or_eq_true] at this
  rcases this with t | t
  · exact Or.inl (of_decide_eq_true t)
  · exact Or.inr (of_decide_eq_true t)
theorem lands_l (l : List S42) (g : Fine l) (hop : ∀ x, x ∈ l → 0 ≤ x.f0 ∧ x.f0 ≤ 255) (ho : offs l) (d : Nat) : ∀ (k i : Nat), i + d = l.length → d + 100 < k →
    lockgatelaw06_FlowLands.l0 k l ((List.range l.length).map (tt l)) ((List.range (l.length + 1)).map (fun j => (slot l j : Int))) (i : Int) = some true := by
  have h1 := g.pos
  have h2 := g.le
  induction d with
  | zero =>
    intro k i hi hk
    obtain ⟨k, rfl⟩ : ∃ m, k = m + 1 := ⟨k - 1, by omega⟩
    have e : wrap64 ((l.length : Int) - 1) = ((l.length - 1 : Nat) : Int) := by unfold wrap64; omega
    have hb := hop l[l.length - 1] (List.getElem_mem (by omega))
    have hf := g.fin
    unfold ends at hf
    rw [getD_get l _ (by omega)] at hf
    rw [lockgatelaw06_FlowLands.l0, e, rdT l (l.length - 1) (by omega)]
    refine ife (by omega) (ift (by omega) (ift (by omega) ?_))
    rcases last_ok _ hb.1 hb.2 hf with h | h
    · exact ift h (bs (works_f k (by omega)) rfl)
    · refine ife (by rw [h]; decide) (ift h (bs (works_f k (by omega)) rfl))
  | succ d ih =>
    intro k i hi hk
    obtain ⟨k, rfl⟩ : ∃ m, k = m + 1 := ⟨k - 1, by omega⟩
    have hlt : i < l.length := by omega
    have hs : ∀ j, j ≤ l.length → rd ((List.range (l.length + 1)).map (fun j => (slot l j : Int))) (j : Int) = (slot l j : Int) := by
      intro j hj
      rw [rdI _ _ (by simp; omega), List.getElem_map, List.getElem_range]
    rw [lockgatelaw06_FlowLands.l0, rdT l i hlt, rd_tt l i hlt, w64u (by omega)]
    refine ift (by omega) (ift (by omega) (bs (ljumps_f _) (ift (by simp; omega) ?_)))
    rcases g.tt i hlt with ⟨hj, q, hq, ha, hv⟩ | ⟨hj, hv⟩
    · rw [hj, hv, show decide ((q : Int) ≥ 0) = true from decide_eq_true (by omega)]
      refine ife (by decide) (ife (by omega) (ift (by omega) (ift (by omega) (ift (by simp; omega) (ift (by omega) (ift (by simp; omega) ?_))))))
      rw [hs q (by omega), hs (i + 1) (by omega)]
      have hof := ho l[i] (List.getElem_mem hlt)
      have hb := slot_le l (i + 1)
      have e : wrap64 ((slot l (i + 1) : Int) + l[i].f3) = (slot l (i + 1) : Int) + l[i].f3 := by unfold wrap64; omega
      rw [e]
      exact ift ha (ih k (i + 1) (by omega) (by omega))
    · rw [hj, hv]
      exact ife (by decide) (ife (by omega) (ife (by decide) (ih k (i + 1) (by omega) (by omega))))
theorem law (k : Nat) (l : List S42) (hm : l.length ≤ 9223372036854775807) (hk : l.length + 10000 ≤ k) : lockgatelaw06_FlowLands.f k l = some true := by
  unfold lockgatelaw06_FlowLands.f
  refine bs (right_f k l hm (by omega)) ?_
  by_cases hr : R l = true
  · obtain ⟨hop, ho, hl⟩ := R_all hr
    refine ift hr (bs (targets_f k l (by omega) ho) (bs (slots_f k l (by omega) (by omega)) ?_))
    rcases tg_cases l with ⟨g, he⟩ | ⟨h0, h1, h2, h3⟩
    · rw [he]
      have h2 := g.le
      exact ift rfl (ift (by simp) (lands_l l g hop ho l.length k 0 (by omega) (by omega)))
    · refine ife h0 ?_
      have e2 : (((tg l).2 == 2) == ((l.length : Int) == 0)) = true := by
        rw [beq_iff_eq, Bool.eq_iff_iff, beq_iff_eq, beq_iff_eq, h2]; omega
      have e9 : (((tg l).2 == 9) == decide ((l.length : Int) > 256)) = true := by
        rw [beq_iff_eq, Bool.eq_iff_iff, beq_iff_eq, decide_eq_true_iff, h3]; omega
      rw [h1]
      exact ift e2 (ift e9 (ift rfl (bs (works_f k (by omega)) rfl)))
  · exact ife hr (bs (works_f k (by omega)) rfl)
theorem pure (l0 : List S42) (hm : l0.length ≤ maxLen) (hw : ∀ x ∈ l0, (Lit.int .i64 x.f0).wf = true ∧ (Lit.int .i64 x.f1).wf = true ∧ (Lit.int .i64 x.f2).wf = true ∧ (Lit.int .i64 x.f3).wf = true ∧ (Lit.int .i64 x.f4).wf = true) :
    ∃ k, lockgatelaw06_FlowLands.f k l0 = some true := ⟨_, law _ l0 (by simpa [maxLen] using hm) (Nat.le_refl _)⟩
end Go.Proofs.Ytkcneaaoghgllaa.LFlowLands
