/- FlowTells, without Go. -/
import Derived.Test.YtkcneaaoghgllaaC06k
import Derived.Test.YtkcneaaoghgllaaLFlowInside
import Derived.Test.YtkcneaaoghgllaaPA7
import Derived.Test.YtkcneaaoghgllaaPA8
import Derived.Test.YtkcneaaoghgllaaPA9
import Derived.Test.YtkcneaaoghgllaaPA10
import Derived.Test.YtkcneaaoghgllaaPA20
set_option linter.unusedVariables false
set_option linter.unusedSimpArgs false
set_option linter.unusedSectionVars false
namespace Go.Proofs.Ytkcneaaoghgllaa.LFlowTells
open Go.RowKit Go.Proofs.YtkcneaaoghgllaaW.PrintWords Go.Proofs.YtkcneaaoghgllaaW.PrintLast Go.Proofs.YtkcneaaoghgllaaW.PrintMore Go.Proofs.Ytkcneaaoghgllaa.PA Go.Proofs.Ytkcneaaoghgllaa.Bv Go.Proofs.Ytkcneaaoghgllaa.C06
theorem same_l (a : List Int) (hl : a.length ≤ 1000) (d : Nat) : ∀ (k i : Nat), i + d = a.length → d < k → lockgatekit_SameInts.l0 k a a (i : Int) = some true := by
  induction d with
  | zero =>
    intro k i hi hk
    obtain ⟨k, rfl⟩ : ∃ m, k = m + 1 := ⟨k - 1, by omega⟩
    rw [lockgatekit_SameInts.l0]
    exact ife (by omega) rfl
  | succ d ih =>
    intro k i hi hk
    obtain ⟨k, rfl⟩ : ∃ m, k = m + 1 := ⟨k - 1, by omega⟩
    rw [lockgatekit_SameInts.l0, w64u (by omega), ih k (i + 1) (by omega) (by omega)]
    exact ift (by omega) (ift (by omega) (ift (by omega) (ift rfl rfl)))
theorem same_f (a : List Int) (hl : a.length ≤ 1000) (k : Nat) (hk : a.length < k) : lockgatekit_SameInts.f k a a = some true := by
  unfold lockgatekit_SameInts.f
  exact ift rfl (same_l a hl a.length k 0 (by omega) hk)
theorem sameI_l (a : List S42) (hl : a.length ≤ 1000) (d : Nat) : ∀ (k i : Nat), i + d = a.length → d < k → lockgatekit_SameInsns.l0 k a a (i : Int) = some true := by
  induction d with
  | zero =>
    intro k i hi hk
    obtain ⟨k, rfl⟩ : ∃ m, k = m + 1 := ⟨k - 1, by omega⟩
    rw [lockgatekit_SameInsns.l0]
    exact ife (by omega) rfl
  | succ d ih =>
    intro k i hi hk
    obtain ⟨k, rfl⟩ : ∃ m, k = m + 1 := ⟨k - 1, by omega⟩
    rw [lockgatekit_SameInsns.l0, w64u (by omega), ih k (i + 1) (by omega) (by omega)]
    refine ift (by omega) (ift (by omega) (ift (by omega) (ife ?_ rfl)))
    simp only [beq_self_eq_true, Bool.not_true, Bool.or_self]; exact nt
theorem sameI_f (a : List S42) (hl : a.length ≤ 1000) (k : Nat) (hk : a.length < k) : lockgatekit_SameInsns.f k a a = some true := by
  unfold lockgatekit_SameInsns.f
  exact ift rfl (sameI_l a hl a.length k 0 (by omega) hk)
theorem copyI_l (l : List S42) (hl : l.length ≤ 1000) (d : Nat) : ∀ (k i : Nat), i + d = l.length → d < k → lockgatekit_CopyInsns.l0 k l (l.take i) (i : Int) = some l := by
  induction d with
  | zero =>
    intro k i hi hk
    obtain ⟨k, rfl⟩ : ∃ m, k = m + 1 := ⟨k - 1, by omega⟩
    rw [lockgatekit_CopyInsns.l0, List.take_of_length_le (by omega)]
    exact ife (by omega) rfl
  | succ d ih =>
    intro k i hi hk
    obtain ⟨k, rfl⟩ : ∃ m, k = m + 1 := ⟨k - 1, by omega⟩
    have hlt : i < l.length := by omega
    have ea : l.take i ++ [(⟨l[i].f0, l[i].f1, l[i].f2, l[i].f3, l[i].f4⟩ : S42)] = l.take (i + 1) := by
      rw [List.take_succ_eq_append_getElem hlt]
    rw [lockgatekit_CopyInsns.l0, rdT l i hlt, ea, w64u (by omega), ih k (i + 1) (by omega) (by omega)]
    exact ift (by omega) (ift (by omega) (ift (by rw [List.length_take]; omega) rfl))
theorem copyI_f (l : List S42) (hl : l.length ≤ 1000) (k : Nat) (hk : l.length < k) : lockgatekit_CopyInsns.f k l = some l := copyI_l l hl l.length k 0 (by omega) hk
theorem copy_l (l : List Int) (hl : l.length ≤ 1000) (d : Nat) : ∀ (k i : Nat), i + d = l.length → d < k → lockgatekit_CopyInts.l0 k l (l.take i) (i : Int) = some l := by
  induction d with
  | zero =>
    intro k i hi hk
    obtain ⟨k, rfl⟩ : ∃ m, k = m + 1 := ⟨k - 1, by omega⟩
    rw [lockgatekit_CopyInts.l0, List.take_of_length_le (by omega)]
    exact ife (by omega) rfl
  | succ d ih =>
    intro k i hi hk
    obtain ⟨k, rfl⟩ : ∃ m, k = m + 1 := ⟨k - 1, by omega⟩
    have hlt : i < l.length := by omega
    rw [lockgatekit_CopyInts.l0, rdI l i hlt, ← List.take_succ_eq_append_getElem hlt, w64u (by omega), ih k (i + 1) (by omega) (by omega)]
    exact ift (by omega) (ift (by omega) (ift (by rw [List.length_take]; omega) rfl))
theorem copy_f (l : List Int) (hl : l.length ≤ 1000) (k : Nat) (hk : l.length < k) : lockgatekit_CopyInts.f k l = some l := copy_l l hl l.length k 0 (by omega) hk
/-- what stands behind what is lent. -/
def mI (i : Nat) : S42 := ⟨250 + (i : Int), 0, 0, 0, 77 * (i : Int)⟩
def mN (i : Nat) : Int := 7001 + 13 * (i : Int)
theorem markI_f (i : Nat) (hi : i < 100000) : lockgatekit_markInsns.f (i : Int) = some ((mI i).f0, (mI i).f1, (mI i).f2, (mI i).f3, (mI i).f4) := by
  have e1 : wrap64 (250 + (i : Int)) = 250 + (i : Int) := by unfold wrap64; omega
  have e2 : wrap64 (77 * (i : Int)) = 77 * (i : Int) := by unfold wrap64; omega
  unfold lockgatekit_markInsns.f; rw [e1, e2]; rfl
theorem mark_f (i : Nat) (hi : i < 100000) : lockgatekit_markInts.f (i : Int) = some (mN i) := by
  have e1 : wrap64 (13 * (i : Int)) = 13 * (i : Int) := by unfold wrap64; omega
  have e2 : wrap64 (7001 + 13 * (i : Int)) = 7001 + 13 * (i : Int) := by unfold wrap64; omega
  unfold lockgatekit_markInts.f; rw [e1, e2]; rfl
theorem lentI_l (l : List S42) (hl : l.length ≤ 1000) (d : Nat) : ∀ (k i : Nat), i + d = 5 → d < k → lockgatekit_LentInsns.l0 k (l ++ (List.range i).map mI) (i : Int) = some (l ++ (List.range 5).map mI) := by
  induction d with
  | zero =>
    intro k i hi hk
    obtain ⟨k, rfl⟩ : ∃ m, k = m + 1 := ⟨k - 1, by omega⟩
    obtain rfl : i = 5 := by omega
    rw [lockgatekit_LentInsns.l0]
    exact ife (by decide) rfl
  | succ d ih =>
    intro k i hi hk
    obtain ⟨k, rfl⟩ : ∃ m, k = m + 1 := ⟨k - 1, by omega⟩
    rw [lockgatekit_LentInsns.l0, w64u (by omega)]
    refine ift (by omega) (bs (markI_f i (by omega)) (ift (by simp; omega) ?_))
    have ea : (l ++ (List.range i).map mI) ++ [(⟨(mI i).f0, (mI i).f1, (mI i).f2, (mI i).f3, (mI i).f4⟩ : S42)] = l ++ (List.range (i + 1)).map mI := by
      rw [List.range_succ, List.map_append, List.append_assoc]; rfl
    show lockgatekit_LentInsns.l0 k ((l ++ (List.range i).map mI) ++ [(⟨(mI i).f0, (mI i).f1, (mI i).f2, (mI i).f3, (mI i).f4⟩ : S42)]) _ = _
    rw [ea]
    exact ih k (i + 1) (by omega) (by omega)
theorem lentI_f (l : List S42) (hl : l.length ≤ 1000) (k : Nat) (hk : 1010 ≤ k) : lockgatekit_LentInsns.f k l = some (l ++ (List.range 5).map mI) := by
  unfold lockgatekit_LentInsns.f
  refine bs (copyI_f l hl k (by omega)) ?_
  have := lentI_l l hl 5 k 0 (by omega) (by omega)
  simpa using this
theorem lent_l (l : List Int) (hl : l.length ≤ 1000) (d : Nat) : ∀ (k i : Nat), i + d = 5 → d < k → lockgatekit_LentInts.l0 k (l ++ (List.range i).map mN) (i : Int) = some (l ++ (List.range 5).map mN) := by
  induction d with
  | zero =>
    intro k i hi hk
    obtain ⟨k, rfl⟩ : ∃ m, k = m + 1 := ⟨k - 1, by omega⟩
    obtain rfl : i = 5 := by omega
    rw [lockgatekit_LentInts.l0]
    exact ife (by decide) rfl
  | succ d ih =>
    intro k i hi hk
    obtain ⟨k, rfl⟩ : ∃ m, k = m + 1 := ⟨k - 1, by omega⟩
    rw [lockgatekit_LentInts.l0, w64u (by omega)]
    refine ift (by omega) (bs (mark_f i (by omega)) (ift (by simp; omega) ?_))
    have ea : (l ++ (List.range i).map mN) ++ [mN i] = l ++ (List.range (i + 1)).map mN := by
      rw [List.range_succ, List.map_append, List.append_assoc]; rfl
    rw [ea]
    exact ih k (i + 1) (by omega) (by omega)
theorem lent_f (l : List Int) (hl : l.length ≤ 1000) (k : Nat) (hk : 1010 ≤ k) : lockgatekit_LentInts.f k l = some (l ++ (List.range 5).map mN) := by
  unfold lockgatekit_LentInts.f
  refine bs (copy_f l hl k (by omega)) ?_
  have := lent_l l hl 5 k 0 (by omega) (by omega)
  simpa using this
theorem spoil_l (d : Nat) : ∀ (l : List Int), l.length ≤ 1000 → ∀ (k i : Nat), i + d = l.length → d < k → ∃ r, lockgatekit_SpoilInts.l0 k l (i : Int) = some r := by
  induction d with
  | zero =>
    intro l hl k i hi hk
    obtain ⟨k, rfl⟩ : ∃ m, k = m + 1 := ⟨k - 1, by omega⟩
    rw [lockgatekit_SpoilInts.l0]
    exact ⟨_, ife (by omega) rfl⟩
  | succ d ih =>
    intro l hl k i hi hk
    obtain ⟨k, rfl⟩ : ∃ m, k = m + 1 := ⟨k - 1, by omega⟩
    have e : wrap64 ((i : Int) + 7) = ((i + 7 : Nat) : Int) := by unfold wrap64; omega
    obtain ⟨r, hr⟩ := ih (l.set i (mN (i + 7))) (by rw [List.length_set]; exact hl) k (i + 1) (by rw [List.length_set]; omega) (by omega)
    refine ⟨r, ?_⟩
    rw [lockgatekit_SpoilInts.l0, e, w64u (by omega), Int.toNat_natCast]
    exact ift (by omega) (bs (mark_f (i + 7) (by omega)) (ift (by omega) hr))
theorem spoil_f (l : List Int) (hl : l.length ≤ 1000) (k : Nat) (hk : l.length < k) : ∃ r, lockgatekit_SpoilInts.f k l = some r := spoil_l l.length l hl k 0 (by omega) hk
theorem keptI_l (l : List S42) (hl : l.length ≤ 1000) (d : Nat) : ∀ (k i : Nat), i + d = 5 → d < k → lockgatekit_KeptInsns.l0 k (l ++ (List.range 5).map mI) l (i : Int) = some true := by
  induction d with
  | zero =>
    intro k i hi hk
    obtain ⟨k, rfl⟩ : ∃ m, k = m + 1 := ⟨k - 1, by omega⟩
    rw [lockgatekit_KeptInsns.l0]
    exact ife (by omega) rfl
  | succ d ih =>
    intro k i hi hk
    obtain ⟨k, rfl⟩ : ∃ m, k = m + 1 := ⟨k - 1, by omega⟩
    have e : wrap64 ((l.length : Int) + (i : Int)) = ((l.length + i : Nat) : Int) := by unfold wrap64; omega
    have hlen : (l ++ (List.range 5).map mI).length = l.length + 5 := by simp
    have hr : rd_T42 (l ++ (List.range 5).map mI) ((l.length + i : Nat) : Int) = mI i := by
      rw [rdT _ _ (by omega), List.getElem_append_right (by omega), List.getElem_map, List.getElem_range, show l.length + i - l.length = i by omega]
    rw [lockgatekit_KeptInsns.l0, e, hr, hlen, w64u (by omega), ih k (i + 1) (by omega) (by omega)]
    refine ift (by omega) (ift (by omega) (ift (by omega) (bs (markI_f i (by omega)) (ife ?_ rfl))))
    simp only [beq_self_eq_true, Bool.not_true, Bool.or_self]; exact nt
theorem keptI_f (l : List S42) (hl : l.length ≤ 1000) (k : Nat) (hk : 1010 ≤ k) : lockgatekit_KeptInsns.f k (l ++ (List.range 5).map mI) l = some true := by
  have hlen : (l ++ (List.range 5).map mI).length = l.length + 5 := by simp
  have e : wrap64 ((l.length : Int) + 5) = ((l.length + 5 : Nat) : Int) := by unfold wrap64; omega
  have ht : (l ++ (List.range 5).map mI).take l.length = l := by rw [List.take_append_of_le_length (Nat.le_refl _), List.take_length]
  obtain ⟨k, rfl⟩ : ∃ m, k = m + 1 := ⟨k - 1, by omega⟩
  unfold lockgatekit_KeptInsns.f
  rw [hlen, e, Int.toNat_natCast, ht]
  refine ift rfl (ift (by omega) (ift (by omega) (bs (sameI_f l hl _ (by omega)) ?_)))
  rw [lockgatekit_KeptInsns.j0]
  exact ife nt (keptI_l l hl 5 k 0 (by omega) (by omega))
theorem kept_l (l : List Int) (hl : l.length ≤ 1000) (d : Nat) : ∀ (k i : Nat), i + d = 5 → d < k → lockgatekit_KeptInts.l0 k (l ++ (List.range 5).map mN) l (i : Int) = some true := by
  induction d with
  | zero =>
    intro k i hi hk
    obtain ⟨k, rfl⟩ : ∃ m, k = m + 1 := ⟨k - 1, by omega⟩
    rw [lockgatekit_KeptInts.l0]
    exact ife (by omega) rfl
  | succ d ih =>
    intro k i hi hk
    obtain ⟨k, rfl⟩ : ∃ m, k = m + 1 := ⟨k - 1, by omega⟩
    have e : wrap64 ((l.length : Int) + (i : Int)) = ((l.length + i : Nat) : Int) := by unfold wrap64; omega
    have hlen : (l ++ (List.range 5).map mN).length = l.length + 5 := by simp
    have hr : rd (l ++ (List.range 5).map mN) ((l.length + i : Nat) : Int) = mN i := by
      rw [rdI _ _ (by omega), List.getElem_append_right (by omega), List.getElem_map, List.getElem_range, show l.length + i - l.length = i by omega]
    rw [lockgatekit_KeptInts.l0, e, hr, hlen, w64u (by omega), ih k (i + 1) (by omega) (by omega)]
    exact ift (by omega) (ift (by omega) (ift (by omega) (bs (mark_f i (by omega)) (ift rfl rfl))))
theorem kept_f (l : List Int) (hl : l.length ≤ 1000) (k : Nat) (hk : 1010 ≤ k) : lockgatekit_KeptInts.f k (l ++ (List.range 5).map mN) l = some true := by
  have hlen : (l ++ (List.range 5).map mN).length = l.length + 5 := by simp
  have e : wrap64 ((l.length : Int) + 5) = ((l.length + 5 : Nat) : Int) := by unfold wrap64; omega
  have ht : (l ++ (List.range 5).map mN).take l.length = l := by rw [List.take_append_of_le_length (Nat.le_refl _), List.take_length]
  obtain ⟨k, rfl⟩ : ∃ m, k = m + 1 := ⟨k - 1, by omega⟩
  unfold lockgatekit_KeptInts.f
  rw [hlen, e, Int.toNat_natCast, ht]
  refine ift rfl (ift (by omega) (ift (by omega) (bs (same_f l hl _ (by omega)) ?_)))
  rw [lockgatekit_KeptInts.j0]
  exact ife nt (kept_l l hl 5 k 0 (by omega) (by omega))
theorem tells_l (l : List S42) (g : Fine l) (hb : ∀ x, x ∈ l → byt x) (d : Nat) : ∀ (k i : Nat), i + d = l.length → d + 2000 < k →
    lockgatelaw06_FlowTells.l0 k l (l ++ (List.range 5).map mI) (T l) (T l ++ (List.range 5).map mN) (i : Int) = some true := by
  have hle := g.le
  have ht := T_len l
  induction d with
  | zero =>
    intro k i hi hk
    obtain ⟨k, rfl⟩ : ∃ m, k = m + 1 := ⟨k - 1, by omega⟩
    rw [lockgatelaw06_FlowTells.l0]
    exact ife (by omega) (bs (keptI_f l (by omega) k (by omega)) (ift rfl (bs (kept_f (T l) (by omega) k (by omega)) (ift rfl (bs (works_f k (by omega)) rfl)))))
  | succ d ih =>
    intro k i hi hk
    obtain ⟨k, rfl⟩ : ∃ m, k = m + 1 := ⟨k - 1, by omega⟩
    have hlt : i < l.length := by omega
    have h2 := (nx_two g hlt).1
    rw [lockgatelaw06_FlowTells.l0, w64u (by omega), ih k (i + 1) (by omega) (by omega)]
    exact ift (by omega) (bs (next_f l g k i hlt (by omega)) (bs (rnext_f l g hb k i hlt (by omega)) (bs (same_f _ (by simp; omega) k (by simp; omega)) (ift rfl rfl))))
theorem law (k : Nat) (l : List S42) (a : Int) (hm : l.length ≤ 9223372036854775807) (hk : l.length + 500000 ≤ k) : lockgatelaw06_FlowTells.f k l a = some true := by
  unfold lockgatelaw06_FlowTells.f
  refine bs (right_f k l hm (by omega)) ?_
  by_cases hr : R l = true
  · obtain ⟨hb, ho, hl⟩ := R_all hr
    have hlen : (l ++ (List.range 5).map mI).length = l.length + 5 := by simp
    have ht : (l ++ (List.range 5).map mI).take l.length = l := by rw [List.take_append_of_le_length (Nat.le_refl _), List.take_length]
    refine ift hr (bs (lentI_f l (by omega) k (by omega)) ?_)
    rw [Int.toNat_natCast, ht, hlen]
    refine ift (by omega) (ift (by omega) (bs (targets_f k l (by omega) ho) (bs (rtargets_f l hb ho k (by omega)) (ift rfl ?_))))
    obtain ⟨k, rfl⟩ : ∃ m, k = m + 1 := ⟨k - 1, by omega⟩
    rcases tg_cases l with ⟨g, he⟩ | ⟨h0, h1, _⟩
    · have hle := g.le
      have htl := T_len l
      have hlen2 : (T l ++ (List.range 5).map mN).length = l.length + 5 := by rw [List.length_append, htl]; simp
      have ht2 : (T l ++ (List.range 5).map mN).take l.length = T l := by rw [List.take_append_of_le_length (by omega), List.take_of_length_le (by omega)]
      have hrc := rc_len l
      have hhs : (hs l).length = l.length := by simp [hs]
      rw [he]
      refine bs (same_f (T l) (by omega) _ (by omega)) ?_
      show lockgatelaw06_FlowTells.j0 (k + 1) l a (l ++ (List.range 5).map mI) (T l) 0 (T l) (!true) = _
      rw [lockgatelaw06_FlowTells.j0]
      refine ife (by decide) (ift rfl (bs (lent_f (T l) (by omega) k (by omega)) ?_))
      rw [Int.toNat_natCast, ht, hlen, hlen2, htl, Int.toNat_natCast, ht2]
      obtain ⟨sp, hsp⟩ := spoil_f (T l) (by omega) k (by omega)
      have hnx : ∃ n, n.length ≤ 2 ∧ flow_Next.f k l (T l) a = some n ∧ lockgateref06_Next.f k l (T l) a = some n := by
        by_cases hin : a < 0 ∨ a ≥ (l.length : Int)
        · exact ⟨[], by simp, next_out l k a hin (by omega), rnext_out l k a hin (by omega)⟩
        · obtain ⟨i, rfl⟩ := Int.eq_ofNat_of_zero_le (show 0 ≤ a by omega)
          exact ⟨_, by rw [List.length_map]; exact (nx_two g (by omega)).1, next_f l g k i (by omega) (by omega), rnext_f l g hb k i (by omega) (by omega)⟩
      obtain ⟨n, hn2, hn3, hn4⟩ := hnx
      obtain ⟨sq, hsq⟩ := spoil_f n (by omega) (k - 1) (by omega)
      refine ift (by omega) (ift (by omega) (ift (by omega) (ift (by omega) (bs hn3 (bs (heads_f l g k (by omega)) (bs (reached_f l g k (by omega)) (bs hsp (bs hn4 (bs (same_f n (by omega) k (by omega)) (ift rfl (bs (rheads_f l g k (by omega)) (bs (LFlowInside.same_f (hs l) (by omega) k (by omega)) (ift rfl (bs (rreached_f l g hb k (by omega)) (bs (LFlowInside.same_f (rc l) (by omega) k (by omega)) ?_)))))))))))))))
      obtain ⟨k, rfl⟩ : ∃ m, k = m + 1 := ⟨k - 1, by omega⟩
      rw [lockgatelaw06_FlowTells.j1]
      exact ife (by decide) (bs hsq (tells_l l g hb l.length k 0 (by omega) (by omega)))
    · rw [h1]
      refine bs (same_f _ (by simp) _ (by simp)) ?_
      show lockgatelaw06_FlowTells.j0 (k + 1) l a (l ++ (List.range 5).map mI) [] (tg l).2 [] (!true) = _
      rw [lockgatelaw06_FlowTells.j0]
      exact ife (by decide) (ife h0 (bs (works_f k (by omega)) rfl))
  · exact ife hr (bs (works_f k (by omega)) rfl)
theorem pure (l0 : List S42) (a1 : Int) (hm : l0.length ≤ maxLen) (hw : ∀ x ∈ l0, (Lit.int .i64 x.f0).wf = true ∧ (Lit.int .i64 x.f1).wf = true ∧ (Lit.int .i64 x.f2).wf = true ∧ (Lit.int .i64 x.f3).wf = true ∧ (Lit.int .i64 x.f4).wf = true) (w1 : (Lit.int .i64 a1).wf = true) :
    ∃ k, lockgatelaw06_FlowTells.f k l0 a1 = some true := ⟨_, law _ l0 a1 (by simpa [maxLen] using hm) (Nat.le_refl _)⟩
end Go.Proofs.Ytkcneaaoghgllaa.LFlowTells
